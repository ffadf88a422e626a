/-
  Values of interface types: made, asked for their type, called. No function of the program is named here.
-/
import Derived.Test.YtchcpnfafgiifaaAuto
namespace Go.Proofs.Ytchcpnfafgiifaa
open Go.RowKit
section
variable {P : Program} {fn : Func} {F : Ending → World → Prop} {N : Nat} {ks : List K} {ops : Array Oper} {tg : Tags} {l : List Oper} {fr : Fr} {w : World} {ty t t' xt : TypeId} {v v' : Value} {pos : String} {aft : Array Edge} {gd : Option (Nat × Bool)} {d : Nat} {x y : Operand} {nm : String}
--@ rule makeInterface p o_mkIface
theorem o_mkIface {fs : Array Field} (hu : P.underlying t = some (.struct fs)) (hx : fr.ev x = some v) : OpV P N fr w (.makeInterface t x) ty (.iface t v) w := fun a ha o ho _ => by
  simp [execOp, ho, ha.ev hx, Instr.makeInterface, run_underlying hu]
--@ rule typeAssert p o_assertYes
--@ rule typeAssert p o_assertNo
theorem o_assertYes {fs : Array Field} (hu : P.underlying t = some (.struct fs)) (hx : fr.ev x = some (.iface t v)) : OpV P N fr w (.typeAssert x xt t true) ty (.tuple #[v, .bool true]) w := fun a ha o ho _ => by
  simp [execOp, ho, ha.ev hx, Instr.typeAssert, run_underlying hu]
theorem o_assertNo {fs : Array Field} (hu : P.underlying t = some (.struct fs)) (hx : fr.ev x = some (.iface t' v)) (hne : t' ≠ t) (hz : ∀ w, (zeroValue t).run P w = .ok v' w) : OpV P N fr w (.typeAssert x xt t true) ty (.tuple #[v', .bool false]) w := fun a ha o ho _ => by
  simp [execOp, ho, ha.ev hx, Instr.typeAssert, run_underlying hu, hne, hz]
theorem run_invoke {ρ : Operand → Value} {f : FuncId} (hB : Bodied P f) {x : Operand} {xs : Array Operand} {ts : Array TypeId} {vs : Array Value} (hr : ρ x = .iface t v) (hv : xs.map ρ = vs) (hm : ∀ w, (Go.method (P.types.size + Made.depth) t v nm).run P w = .ok (f, v) w) (o : Oper)
    (ho : o.op = .call { callee := .invoke x nm, args := xs, argTypes := ts }) : (execOp ρ o).run P w = .ok (.enter f (#[v] ++ vs)) w := by
  obtain ⟨g, h1, h2, h3⟩ := hB
  have h0 : (#[Value.iface t v] ++ vs)[0]? = some (.iface t v) := by rw [Array.getElem?_append_left (by simp)]; rfl
  have h4 : (#[Value.iface t v] ++ vs).extract 1 (#[Value.iface t v] ++ vs).size = vs := by
    apply Array.ext'
    simp
  simp only [execOp, ho, resolve, hv, hr, invoke, Sem.run_bind, Sem.run_pure, Result.andThen_ok, h0, h4, callMethod, hm, run_program, callFunc, h1]
  rw [if_neg (by simpa using h3), if_neg (by intro e; rw [e] at h2; cases h2)]
  rfl
--@ rule invoke l wl_invoke
theorem wl_invoke {f : FuncId} {xs : List Operand} {ts : Array TypeId} {vs : List Value} {R : Value → World → Prop} (hr : fr.ev x = some (.iface t v)) (hx : fr.evs xs = some vs) (hm : ∀ w, (Go.method (P.types.size + Made.depth) t v nm).run P w = .ok (f, v) w) (hc : CallsR P f (v :: vs) w R)
    (hk : ∀ v w', R v w' → WL P fn F N ks ops tg.tail l ((d, v) :: fr) w') (ht : tg.loud = true := by rfl) (hg : onG ops fr gd = true := by rfl) (hd : Nat.blt d N = true := by rfl) (hq : tg.calm = false ∨ ∀ v w', R v w' → w.grownBy w' tg.row := by exact .inl rfl) :
    WL P fn F N ks ops tg (⟨some d, .call { callee := .invoke x nm, args := xs.toArray, argTypes := ts }, ty, pos, aft, gd⟩ :: l) fr w :=
  fun a ha => left_loud ht fun K hK => by
    rw [if_pos (wanted_on (o := ⟨some d, .call { callee := .invoke x nm, args := xs.toArray, argTypes := ts }, ty, pos, aft, gd⟩) ha hg)]
    have hargs : Array.map a.eval xs.toArray = vs.toArray := by rw [List.map_toArray, ha.evs hx]
    unfold Oper.wp
    rw [run_invoke hc.1 (ha.ev hr) hargs hm _ rfl]
    have hc2 := hc.2
    have e : (#[v] ++ vs.toArray : Array Value) = (v :: vs).toArray := by simp
    rw [e]
    refine Calls.mono hc2 ?_
    rintro e w' ⟨v, rfl, hr⟩
    exact hK _ _ (hq.imp id fun h => h v w' hr) (hk v w' hr _ (ha.put hd v))
end
end Go.Proofs.Ytchcpnfafgiifaa
