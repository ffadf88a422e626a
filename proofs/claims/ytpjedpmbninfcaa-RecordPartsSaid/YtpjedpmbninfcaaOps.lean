/-
  A rule for each kind of operation. No function of the program is named here.
-/
import Derived.Test.YtpjedpmbninfcaaDraw
namespace Go.Proofs.Ytpjedpmbninfcaa
open Go.RowKit

/-- The operation hands back v, and leaves the world w'. -/
def OpV (P : Program) (N : Nat) (fr : Fr) (w : World) (op : Op) (ty : TypeId) (v : Value) (w' : World) : Prop :=
  ∀ a, Rep N a fr → ∀ o : Oper, o.op = op → o.type = ty → (execOp a.eval o).run P w = .ok (.value v) w'
/-- The operation hands back nothing, and leaves the world w'. -/
def OpU (P : Program) (N : Nat) (fr : Fr) (w : World) (op : Op) (w' : World) : Prop :=
  ∀ a, Rep N a fr → ∀ o : Oper, o.op = op → (execOp a.eval o).run P w = .ok .skip w'

/-! Guards. -/
def isB (b : Bool) : Value → Bool
  | .bool x => x == b
  | _ => false
def guardV (ops : Array Oper) (fr : Fr) (j : Nat) : Option Value := match (ops[j]?).bind (·.dst) with
  | some t => fr.get t
  | none => none
def onG (ops : Array Oper) (fr : Fr) : Option (Nat × Bool) → Bool
  | none => true
  | some (j, b) => match guardV ops fr j with
    | some u => isB b u
    | none => false
def offG (ops : Array Oper) (fr : Fr) : Option (Nat × Bool) → Bool
  | none => false
  | some (j, b) => match guardV ops fr j with
    | some u => !isB b u
    | none => false

section
variable {P : Program} {fn : Func} {F : Ending → World → Prop} {N : Nat} {ks : List K} {ops : Array Oper} {tg : Tags} {l : List Oper} {fr : Fr} {w w' : World} {op : Op} {ty : TypeId} {pos : String} {aft : Array Edge} {g : Option (Nat × Bool)} {v : Value} {d : Nat}

theorem wanted_at {a : Act} {o : Oper} {j : Nat} {b : Bool} {u : Value} (ha : Rep N a fr) (hg : o.guard = some (j, b)) (hu : guardV ops fr j = some u) : Region.wanted o (yielded ops a.tmps) = isB b u := by
  unfold guardV at hu
  split at hu
  · rename_i t ht
    have h1 := ha.get t u hu
    unfold Region.wanted
    rw [hg]
    simp only [yielded, ht, Option.bind_some, h1]
    cases u <;> simp [isB] <;> (try (cases b <;> simp))
  · cases hu
theorem wanted_on {a : Act} {o : Oper} (ha : Rep N a fr) (hg : onG ops fr o.guard = true) : Region.wanted o (yielded ops a.tmps) = true := by
  cases ho : o.guard with
  | none => simp [Region.wanted, ho]
  | some jb =>
    obtain ⟨j, b⟩ := jb
    rw [ho] at hg
    unfold onG at hg
    cases hu : guardV ops fr j with
    | none => simp only [hu] at hg; cases hg
    | some u => simp only [hu] at hg; rw [wanted_at ha ho hu]; exact hg
theorem wanted_off {a : Act} {o : Oper} (ha : Rep N a fr) (hg : offG ops fr o.guard = true) : Region.wanted o (yielded ops a.tmps) = false := by
  cases ho : o.guard with
  | none => rw [ho] at hg; cases hg
  | some jb =>
    obtain ⟨j, b⟩ := jb
    rw [ho] at hg
    unfold offG at hg
    cases hu : guardV ops fr j with
    | none => simp only [hu] at hg; cases hg
    | some u => simp only [hu] at hg; rw [wanted_at ha ho hu]; simpa using hg

theorem wl_sub {fr' : Fr} (hs : Fr.sub fr' fr) (h : WL P fn F N ks ops tg l fr' w) : WL P fn F N ks ops tg l fr w := fun a ha => h a (ha.sub hs)
/-- An operation that hands back the same in every world. -/
theorem wl_p (h : ∀ w, OpV P N fr w op ty v w) (hk : WL P fn F N ks ops tg.tail l ((d, v) :: fr) w) (hg : onG ops fr g = true := by rfl) (hd : Nat.blt d N = true := by rfl) :
    WL P fn F N ks ops tg (⟨some d, op, ty, pos, aft, g⟩ :: l) fr w :=
  fun a ha => left_pure (v := v) (.inl ⟨wanted_on (o := ⟨some d, op, ty, pos, aft, g⟩) ha hg, fun w => h w a ha _ rfl rfl⟩) (hk _ (ha.put hd v))
/-- An operation that reads. -/
theorem wl_r (h : OpV P N fr w op ty v w) (hk : WL P fn F N ks ops tg.tail l ((d, v) :: fr) w) (ht : tg.reads = true := by rfl) (hg : onG ops fr g = true := by rfl) (hd : Nat.blt d N = true := by rfl) :
    WL P fn F N ks ops tg (⟨some d, op, ty, pos, aft, g⟩ :: l) fr w :=
  fun a ha => left_read (v := v) ht (.inl ⟨wanted_on (o := ⟨some d, op, ty, pos, aft, g⟩) ha hg, .inl (h a ha _ rfl rfl)⟩) (hk _ (ha.put hd v))
/-- An operation that reads what calm ones leave alone. -/
theorem wl_s (h : ∀ w', tg.rw.ok w w' → OpV P N fr w' op ty v w') (hk : WL P fn F N ks ops tg.tail l ((d, v) :: fr) w) (ht : tg.stays = true := by rfl) (hg : onG ops fr g = true := by rfl) (hd : Nat.blt d N = true := by rfl) :
    WL P fn F N ks ops tg (⟨some d, op, ty, pos, aft, g⟩ :: l) fr w :=
  fun a ha => left_stays (v := v) ht (fun w' hg' => .inl ⟨wanted_on (o := ⟨some d, op, ty, pos, aft, g⟩) ha hg, .inl (h w' hg' a ha _ rfl rfl)⟩) (hk _ (ha.put hd v))
theorem grown_of_below {a b : World} (h : Below a.heap.size a b) (row : Option Nat) : a.grownBy b row := ⟨h.os, h.tape, h.output, h.size, fun k hk _ => h.block k hk⟩
theorem grown_wide {a b : World} (h : a.grownBy b none) (row : Option Nat) : a.grownBy b row := ⟨h.os, h.tape, h.output, h.size, fun k hk _ => h.block k hk (by simp)⟩
theorem below_of_grown_none {a b : World} (h : a.grownBy b none) : Below a.heap.size a b := ⟨h.os, h.tape, h.output, h.size, fun k hk => h.block k hk (by simp)⟩
/-- An operation that is passed over. -/
theorem wl_off (hk : WL P fn F N ks ops tg.tail l ((d, undef) :: fr) w) (hg : offG ops fr g = true := by rfl) (hd : Nat.blt d N = true := by rfl) :
    WL P fn F N ks ops tg (⟨some d, op, ty, pos, aft, g⟩ :: l) fr w :=
  fun _ ha => left_pure (v := undef) (.inr ⟨wanted_off (o := ⟨some d, op, ty, pos, aft, g⟩) ha hg, rfl⟩) (hk _ (ha.put hd undef))
theorem wl_off0 (hk : WL P fn F N ks ops tg.tail l fr w) (hg : offG ops fr g = true := by rfl) :
    WL P fn F N ks ops tg (⟨none, op, ty, pos, aft, g⟩ :: l) fr w :=
  fun _ ha => left_pure (v := undef) (.inr ⟨wanted_off (o := ⟨none, op, ty, pos, aft, g⟩) ha hg, rfl⟩) (hk _ ha)
/-- An operation that changes the world. -/
theorem wl_v (h : OpV P N fr w op ty v w') (hk : WL P fn F N ks ops tg.tail l ((d, v) :: fr) w') (ht : tg.loud = true := by rfl) (hg : onG ops fr g = true := by rfl) (hd : Nat.blt d N = true := by rfl) (hq : tg.calm = false ∨ w.grownBy w' tg.row := by exact .inl rfl) :
    WL P fn F N ks ops tg (⟨some d, op, ty, pos, aft, g⟩ :: l) fr w :=
  fun a ha => left_loud ht fun K hK => by
    rw [if_pos (wanted_on (o := ⟨some d, op, ty, pos, aft, g⟩) ha hg)]
    unfold Oper.wp
    rw [h a ha _ rfl rfl]
    exact hK _ _ (hq.imp id Rw.of) (hk _ (ha.put hd v))
theorem wl_v0 (h : OpV P N fr w op ty v w') (hk : WL P fn F N ks ops tg.tail l fr w') (ht : tg.loud = true := by rfl) (hg : onG ops fr g = true := by rfl) (hq : tg.calm = false ∨ w.grownBy w' tg.row := by exact .inl rfl) :
    WL P fn F N ks ops tg (⟨none, op, ty, pos, aft, g⟩ :: l) fr w :=
  fun a ha => left_loud ht fun K hK => by
    rw [if_pos (wanted_on (o := ⟨none, op, ty, pos, aft, g⟩) ha hg)]
    unfold Oper.wp
    rw [h a ha _ rfl rfl]
    exact hK _ _ (hq.imp id Rw.of) (hk _ ha)
theorem wl_u (h : OpU P N fr w op w') (hk : WL P fn F N ks ops tg.tail l fr w') (ht : tg.loud = true := by rfl) (hg : onG ops fr g = true := by rfl) (hq : tg.calm = false ∨ tg.rw.ok w w' := by exact .inl rfl) :
    WL P fn F N ks ops tg (⟨none, op, ty, pos, aft, g⟩ :: l) fr w :=
  fun a ha => left_loud ht fun K hK => by
    rw [if_pos (wanted_on (o := ⟨none, op, ty, pos, aft, g⟩) ha hg)]
    unfold Oper.wp
    rw [h a ha _ rfl]
    exact hK _ _ hq (hk _ ha)
/-- Both ways of a test in a slot. -/
theorem wl_bool (t : Nat) {b : Bool} (ht : fr.get t = some (.bool b)) (h1 : b = true → WL P fn F N ks ops tg l ((t, .bool true) :: fr) w) (h0 : b = false → WL P fn F N ks ops tg l ((t, .bool false) :: fr) w) :
    WL P fn F N ks ops tg l fr w := fun a ha => by
  have hr : ∀ c : Bool, b = c → Rep N a ((t, .bool c) :: fr) := fun c hc => ⟨ha.size, ha.defers, fun u x hx => by
    rw [Fr.get_cons] at hx
    by_cases e : t = u
    · subst e
      rw [if_pos rfl] at hx
      rw [← Option.some.inj hx, ← hc]
      exact ha.get t _ ht
    · rw [if_neg e] at hx
      exact ha.get u x hx⟩
  cases hb : b with
  | true => exact h1 hb a (hr true hb)
  | false => exact h0 hb a (hr false hb)
/-- A test whose answer is known. -/
theorem wl_know (t : Nat) {b : Bool} (c : Bool) (ht : fr.get t = some (.bool b)) (hb : b = c) (h : WL P fn F N ks ops tg l ((t, .bool c) :: fr) w) : WL P fn F N ks ops tg l fr w := by
  subst hb
  exact wl_bool t ht (fun hb => by subst hb; exact h) (fun hb => by subst hb; exact h)

/-! Calls of Go functions. -/
/-- A function with a body. -/
def Bodied (P : Program) (f : FuncId) : Prop := ∃ g, P.funcs[f]? = some g ∧ g.body.isNone = false ∧ (g.name == "runtime.NumGoroutine") = false
/-- The call returns a value for which R holds. -/
def CallsR (P : Program) (f : FuncId) (args : List Value) (w : World) (R : Value → World → Prop) : Prop :=
  Bodied P f ∧ Calls P f args.toArray w fun e w' => ∃ v, e = .returned v ∧ R v w'
theorem CallsR.mono {f : FuncId} {args : List Value} {R R' : Value → World → Prop} (h : CallsR P f args w R) (hr : ∀ v w', R v w' → R' v w') : CallsR P f args w R' :=
  ⟨h.1, h.2.mono fun _ _ ⟨v, e, r⟩ => ⟨v, e, hr _ _ r⟩⟩
theorem run_call {ρ : Operand → Value} {f : FuncId} (hB : Bodied P f) {xs : Array Operand} {ts : Array TypeId} {vs : Array Value} (hv : xs.map ρ = vs) (hρ : ρ (.func f) = .func (.func f) #[] #[]) (o : Oper)
    (ho : o.op = .call { callee := .value (.func f), args := xs, argTypes := ts }) : (execOp ρ o).run P w = .ok (.enter f vs) w := by
  obtain ⟨g, h1, h2, h3⟩ := hB
  simp [execOp, ho, resolve, invoke, hρ, hv, Deferred.ofValue, callFunc, h1]
  rw [if_neg (by simpa using h3), if_neg (by intro e; rw [e] at h2; cases h2)]
theorem wl_call {f : FuncId} {xs : List Operand} {ts : Array TypeId} {vs : List Value} {R : Value → World → Prop} (hx : fr.evs xs = some vs) (hc : CallsR P f vs w R) (hk : ∀ v w', R v w' → WL P fn F N ks ops tg.tail l ((d, v) :: fr) w') (ht : tg.loud = true := by rfl) (hg : onG ops fr g = true := by rfl) (hd : Nat.blt d N = true := by rfl) (hq : tg.calm = false ∨ ∀ v w', R v w' → w.grownBy w' tg.row := by exact .inl rfl) :
    WL P fn F N ks ops tg (⟨some d, .call { callee := .value (.func f), args := xs.toArray, argTypes := ts }, ty, pos, aft, g⟩ :: l) fr w :=
  fun a ha => left_loud ht fun K hK => by
    rw [if_pos (wanted_on (o := ⟨some d, .call { callee := .value (.func f), args := xs.toArray, argTypes := ts }, ty, pos, aft, g⟩) ha hg)]
    have hargs : Array.map a.eval xs.toArray = vs.toArray := by rw [List.map_toArray, ha.evs hx]
    unfold Oper.wp
    rw [run_call hc.1 hargs rfl _ rfl]
    refine Calls.mono hc.2 ?_
    rintro e w' ⟨v, rfl, hr⟩
    exact hK _ _ (hq.imp id fun h => Rw.of (h v w' hr)) (hk v w' hr _ (ha.put hd v))
theorem wl_call0 {f : FuncId} {xs : List Operand} {ts : Array TypeId} {vs : List Value} {R : Value → World → Prop} (hx : fr.evs xs = some vs) (hc : CallsR P f vs w R) (hk : ∀ v w', R v w' → WL P fn F N ks ops tg.tail l fr w') (ht : tg.loud = true := by rfl) (hg : onG ops fr g = true := by rfl) (hq : tg.calm = false ∨ ∀ v w', R v w' → w.grownBy w' tg.row := by exact .inl rfl) :
    WL P fn F N ks ops tg (⟨none, .call { callee := .value (.func f), args := xs.toArray, argTypes := ts }, ty, pos, aft, g⟩ :: l) fr w :=
  fun a ha => left_loud ht fun K hK => by
    rw [if_pos (wanted_on (o := ⟨none, .call { callee := .value (.func f), args := xs.toArray, argTypes := ts }, ty, pos, aft, g⟩) ha hg)]
    have hargs : Array.map a.eval xs.toArray = vs.toArray := by rw [List.map_toArray, ha.evs hx]
    unfold Oper.wp
    rw [run_call hc.1 hargs rfl _ rfl]
    refine Calls.mono hc.2 ?_
    rintro e w' ⟨v, rfl, hr⟩
    exact hK _ _ (hq.imp id fun h => Rw.of (h v w' hr)) (hk v w' hr _ ha)
/-- A call that leaves the world as it was. -/
theorem wl_callr {f : FuncId} {xs : List Operand} {ts : Array TypeId} {vs : List Value} {v : Value} (hx : fr.evs xs = some vs) (hc : CallsR P f vs w fun u w' => u = v ∧ w' = w) (hk : WL P fn F N ks ops tg.tail l ((d, v) :: fr) w)
    (ht : tg.reads = true := by rfl) (hg : onG ops fr g = true := by rfl) (hd : Nat.blt d N = true := by rfl) :
    WL P fn F N ks ops tg (⟨some d, .call { callee := .value (.func f), args := xs.toArray, argTypes := ts }, ty, pos, aft, g⟩ :: l) fr w :=
  fun a ha => left_read (v := v) ht (.inl ⟨wanted_on (o := ⟨some d, .call { callee := .value (.func f), args := xs.toArray, argTypes := ts }, ty, pos, aft, g⟩) ha hg, .inr (.inr ⟨f, vs.toArray,
    run_call hc.1 (by rw [List.map_toArray, ha.evs hx]) rfl _ rfl, hc.2.mono fun _ _ ⟨_, e, h1, h2⟩ => ⟨by rw [e, h1], h2⟩⟩)⟩) (hk _ (ha.put hd v))
/-- A contract out of a walk. -/
theorem callsR {f : FuncId} {g : Func} {c : Code} {args : List Value} {R : Value → World → Prop} {n : Nat} (hf : P.funcs[f]? = some g) (hb : g.body = some c) (hN : g.ntmps = n) (hm : (g.name == "runtime.NumGoroutine") = false)
    (hl : Nat.ble args.length n = true) (h : RK P g (fun e w' => ∃ v, e = .returned v ∧ R v w') n [.code c] (entry args 0) w) : CallsR P f args w R :=
  ⟨⟨g, hf, by rw [hb]; rfl, hm⟩, calls_rk hf hb hN hl h⟩
theorem ret1 {t : Nat} {v : Value} {R : Value → World → Prop} (h : fn.results = #[.tmp t]) (hv : fr.get t = some v) (hR : R v w) : RK P fn (fun e w' => ∃ v, e = .returned v ∧ R v w') N (.code .ret :: ks) fr w :=
  rk_ret (res1 (F := fun e w' => ∃ v, e = .returned v ∧ R v w') h hv ⟨v, rfl, hR⟩)
theorem ret2 {t u : Nat} {v x : Value} {R : Value → World → Prop} (h : fn.results = #[.tmp t, .tmp u]) (hv : fr.get t = some v) (hx : fr.get u = some x) (hR : R (.tuple #[v, x]) w) :
    RK P fn (fun e w' => ∃ v, e = .returned v ∧ R v w') N (.code .ret :: ks) fr w := rk_ret (res2 (F := fun e w' => ∃ v, e = .returned v ∧ R v w') h hv hx ⟨_, rfl, hR⟩)
theorem ret0 {R : Value → World → Prop} (h : fn.results = #[]) (hR : R (.tuple #[]) w) : RK P fn (fun e w' => ∃ v, e = .returned v ∧ R v w') N (.code .ret :: ks) fr w := rk_ret (res0 (F := fun e w' => ∃ v, e = .returned v ∧ R v w') h ⟨_, rfl, hR⟩)
theorem end0 {R : Value → World → Prop} (h : fn.results = #[]) (hR : R (.tuple #[]) w) : RK P fn (fun e w' => ∃ v, e = .returned v ∧ R v w') N [] fr w := rk_end (res0 (F := fun e w' => ∃ v, e = .returned v ∧ R v w') h ⟨_, rfl, hR⟩)
end

/-! The operations. -/
section
variable {P : Program} {N : Nat} {fr : Fr} {w : World} {ty : TypeId} {x y c : Operand} {k : IntKind} {m n : Int}

theorem o_move {v : Value} (hx : fr.ev x = some v) : OpV P N fr w (.move x) ty v w := fun a ha o ho _ => by simp [execOp, ho, ha.ev hx]
theorem o_assign {v : Value} (hx : fr.ev x = some v) : OpV P N fr w (.assign x) ty v w := fun a ha o ho _ => by simp [execOp, ho, ha.ev hx]
theorem o_pick_t {v : Value} (hc : fr.ev c = some (.bool true)) (hx : fr.ev x = some v) : OpV P N fr w (.pick c x y) ty v w := fun a ha o ho _ => by simp [execOp, ho, ha.ev hx, ha.ev hc, asBool]
theorem o_pick_f {v : Value} (hc : fr.ev c = some (.bool false)) (hy : fr.ev y = some v) : OpV P N fr w (.pick c x y) ty v w := fun a ha o ho _ => by simp [execOp, ho, ha.ev hy, ha.ev hc, asBool]
theorem o_pick {b p q : Bool} (hc : fr.ev c = some (.bool b)) (hx : fr.ev x = some (.bool p)) (hy : fr.ev y = some (.bool q)) : OpV P N fr w (.pick c x y) ty (.bool (if b then p else q)) w := fun a ha o ho _ => by
  simp [execOp, ho, ha.ev hx, ha.ev hy, ha.ev hc, asBool]
theorem o_not {b : Bool} {t : TypeId} (hx : fr.ev x = some (.bool b)) : OpV P N fr w (.unOp .not t x) ty (.bool !b) w := fun a ha o ho _ => by simp [execOp, ho, ha.ev hx, Op.unary]

theorem o_bin {op : BinOp} {t t' : TypeId} {u v r : Value} (hx : fr.ev x = some u) (hy : fr.ev y = some v) (hg : ∀ x y, (eqGuard op t x y u v) = pure ()) (hr : (binOp op t u v).run P w = .ok r w) : OpV P N fr w (.binOp op t x y t') ty r w := fun a ha o ho _ => by
  simp [execOp, ho, ha.ev hx, ha.ev hy, hg, hr]
theorem eqg_int {op : BinOp} {t : TypeId} {v : Value} : ∀ x y, (eqGuard op t x y (.int k n) v) = pure () := fun _ _ => by simp [go_sem]

section
variable {t t' : TypeId}
theorem o_addw (hx : fr.ev x = some (.int k m)) (hy : fr.ev y = some (.int k n)) : OpV P N fr w (.binOp .add t x y t') ty (.int k (k.wrap (m + n))) w := o_bin hx hy eqg_int (by simp [go_sem])
theorem o_subw (hx : fr.ev x = some (.int k m)) (hy : fr.ev y = some (.int k n)) : OpV P N fr w (.binOp .sub t x y t') ty (.int k (k.wrap (m - n))) w := o_bin hx hy eqg_int (by simp [go_sem])
theorem o_mulw (hx : fr.ev x = some (.int k m)) (hy : fr.ev y = some (.int k n)) : OpV P N fr w (.binOp .mul t x y t') ty (.int k (k.wrap (m * n))) w := o_bin hx hy eqg_int (by simp [go_sem])
theorem o_lt (hx : fr.ev x = some (.int k m)) (hy : fr.ev y = some (.int k n)) : OpV P N fr w (.binOp .lss t x y t') ty (.bool (decide (m < n))) w := o_bin hx hy eqg_int (by simp [go_sem])
theorem o_le (hx : fr.ev x = some (.int k m)) (hy : fr.ev y = some (.int k n)) : OpV P N fr w (.binOp .leq t x y t') ty (.bool (decide (m ≤ n))) w := o_bin hx hy eqg_int (by simp [go_sem])
theorem o_gt (hx : fr.ev x = some (.int k m)) (hy : fr.ev y = some (.int k n)) : OpV P N fr w (.binOp .gtr t x y t') ty (.bool (decide (n < m))) w := o_bin hx hy eqg_int (by simp [go_sem])
theorem o_ge (hx : fr.ev x = some (.int k m)) (hy : fr.ev y = some (.int k n)) : OpV P N fr w (.binOp .geq t x y t') ty (.bool (decide (n ≤ m))) w := o_bin hx hy eqg_int (by simp [go_sem])
theorem o_eq (hx : fr.ev x = some (.int k m)) (hy : fr.ev y = some (.int k n)) : OpV P N fr w (.binOp .eql t x y t') ty (.bool (decide (m = n))) w := o_bin hx hy eqg_int (by rw [binOp_eql]; simp only [Sem.run_pure]; congr 2)
theorem o_ne (hx : fr.ev x = some (.int k m)) (hy : fr.ev y = some (.int k n)) : OpV P N fr w (.binOp .neq t x y t') ty (.bool (decide (m ≠ n))) w := o_bin hx hy eqg_int (by
  rw [binOp_neq]; simp only [Sem.run_pure]; congr 2; rw [Bool.eq_iff_iff]; simp)
theorem o_and (hx : fr.ev x = some (.int k m)) (hy : fr.ev y = some (.int k n)) : OpV P N fr w (.binOp .and t x y t') ty (.int k (bits .and k m n)) w := o_bin hx hy eqg_int (by simp [go_sem])
theorem o_or (hx : fr.ev x = some (.int k m)) (hy : fr.ev y = some (.int k n)) : OpV P N fr w (.binOp .or t x y t') ty (.int k (bits .or k m n)) w := o_bin hx hy eqg_int (by simp [go_sem])
theorem o_xor (hx : fr.ev x = some (.int k m)) (hy : fr.ev y = some (.int k n)) : OpV P N fr w (.binOp .xor t x y t') ty (.int k (bits .xor k m n)) w := o_bin hx hy eqg_int (by simp [go_sem])
theorem o_shr {k' : IntKind} (hx : fr.ev x = some (.int k m)) (hy : fr.ev y = some (.int k' n)) (h0 : 0 ≤ n) : OpV P N fr w (.binOp .shr t x y t') ty (.int k (m / 2 ^ min n.toNat k.bits)) w := o_bin hx hy eqg_int (by
  rw [binOp_shr, shift_shr_any _ _ _ _ h0]; simp)
theorem o_shl {k' : IntKind} (hx : fr.ev x = some (.int k m)) (hy : fr.ev y = some (.int k' n)) (h0 : 0 ≤ n) : OpV P N fr w (.binOp .shl t x y t') ty (.int k (k.wrap (m * 2 ^ min n.toNat k.bits))) w := o_bin hx hy eqg_int (by
  rw [binOp_shl, shift_shl_any _ _ _ _ h0]; simp)
end

/-- The result in other words. -/
theorem o_as {op : Op} {v v' : Value} {w' : World} (h : OpV P N fr w op ty v w') (e : v = v') : OpV P N fr w op ty v' w' := e ▸ h
theorem o_asi {op : Op} {a b : Int} {w' : World} (h : OpV P N fr w op ty (.int k a) w') (e : a = b) : OpV P N fr w op ty (.int k b) w' := e ▸ h

theorem i64_in {n : Int} (h1 : -9223372036854775808 ≤ n) (h2 : n ≤ 9223372036854775807) : IntKind.i64.wrap n = n := by rw [IntKind.wrap_i64]; omega
theorem u64_in {n : Int} (h1 : 0 ≤ n) (h2 : n ≤ 18446744073709551615) : IntKind.u64.wrap n = n := by
  show n % 18446744073709551616 = n
  omega
theorem u8_in {n : Int} (h1 : 0 ≤ n) (h2 : n ≤ 255) : IntKind.u8.wrap n = n := by
  show n % 256 = n
  omega
section
variable {t t' : TypeId}
theorem o_add (hx : fr.ev x = some (.int .i64 m)) (hy : fr.ev y = some (.int .i64 n)) (h1 : -9223372036854775808 ≤ m + n) (h2 : m + n ≤ 9223372036854775807) : OpV P N fr w (.binOp .add t x y t') ty (.int .i64 (m + n)) w := o_asi (o_addw hx hy) (i64_in h1 h2)
theorem o_sub (hx : fr.ev x = some (.int .i64 m)) (hy : fr.ev y = some (.int .i64 n)) (h1 : -9223372036854775808 ≤ m - n) (h2 : m - n ≤ 9223372036854775807) : OpV P N fr w (.binOp .sub t x y t') ty (.int .i64 (m - n)) w := o_asi (o_subw hx hy) (i64_in h1 h2)
theorem o_mul (hx : fr.ev x = some (.int .i64 m)) (hy : fr.ev y = some (.int .i64 n)) (h1 : -9223372036854775808 ≤ m * n) (h2 : m * n ≤ 9223372036854775807) : OpV P N fr w (.binOp .mul t x y t') ty (.int .i64 (m * n)) w := o_asi (o_mulw hx hy) (i64_in h1 h2)
theorem o_quo (hx : fr.ev x = some (.int .i64 m)) (hy : fr.ev y = some (.int .i64 n)) (h0 : 0 ≤ m) (h1 : m ≤ 9223372036854775807) (h2 : 0 < n) : OpV P N fr w (.binOp .quo t x y t') ty (.int .i64 (m / n)) w := o_bin hx hy eqg_int (by
  rw [binOp_quo]
  have hne : n ≠ 0 := by omega
  have e : m.tdiv n = m / n := Int.tdiv_eq_ediv_of_nonneg h0
  have hle : m / n ≤ m := Int.ediv_le_self n h0
  have hge : 0 ≤ m / n := Int.ediv_nonneg h0 (by omega)
  simp [Op.intDiv, hne, e, i64_in (show -9223372036854775808 ≤ m / n by omega) (by omega)])
theorem o_rem (hx : fr.ev x = some (.int .i64 m)) (hy : fr.ev y = some (.int .i64 n)) (h0 : 0 ≤ m) (h2 : 0 < n) : OpV P N fr w (.binOp .rem t x y t') ty (.int .i64 (m % n)) w := o_bin hx hy eqg_int (by
  rw [binOp_rem]
  have hne : n ≠ 0 := by omega
  have e : m.tmod n = m % n := Int.tmod_eq_emod_of_nonneg h0
  simp [Op.intDiv, hne, e])
end
end
end Go.Proofs.Ytpjedpmbninfcaa
