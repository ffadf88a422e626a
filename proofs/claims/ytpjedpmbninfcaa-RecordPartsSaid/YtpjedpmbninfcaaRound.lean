/-
  A range over a function: rounds walked by the rules, calls of yield, code that is left by hand. No function of the program is named here.
-/
import Derived.Test.YtpjedpmbninfcaaGo
import Derived.RangeFuncFrom
import Derived.RangeFuncLeaves
import Derived.RangeFuncCalls
import Derived.OrdersIn
import Derived.TacticsIn
namespace Go.Proofs.Ytpjedpmbninfcaa
open Go.RowKit
def noEnd : Ending → World → Prop := fun _ _ => False
section
variable {P : Program} {fn : Func} {F : Ending → World → Prop} {N n : Nat} {ks : List K} {fr : Fr} {w : World} {I : Act → World → Prop}
theorem kpost_inv {e : Exit} {a : Act} (h : kpost P fn noEnd [.inv I] e a w) : e = .normal ∧ I a w := by
  cases e with
  | normal => exact ⟨rfl, h⟩
  | ret => exact (h : bodyPost P fn noEnd .ret a w).2.choose_spec.2.elim
  | panic c => exact (h : bodyPost P fn noEnd (.panic c) a w).2.elim
  | outgrown => exact (h : bodyPost P fn noEnd .outgrown a w).elim
  | exit id => exact (h : bodyPost P fn noEnd (.exit id) a w).elim
  | goto t => exact (h : bodyPost P fn noEnd (.goto t) a w).elim
theorem noOut : ¬ LetsOut (kpost P fn noEnd [.inv I]) := fun ⟨_, _, h⟩ => by cases (kpost_inv h).1
theorem rk_inv (h : ∀ a, Rep N a fr → I a w) : RK P fn F N (.inv I :: ks) fr w := h
/-- Code that ends where I holds, then more. -/
theorem seq_of_rk {x y : Code} {Q : Exit → Act → World → Prop} {a : Act} (h : RK P fn noEnd N [.code x, .inv I] fr w) (ha : Rep N a fr) (hy : ∀ a w, I a w → y.wpIn Fence.wide n P Q a w) : (Code.seq x y).wpIn Fence.wide n P Q a w := by
  refine wpIn_seq (wpIn_mono (wpIn_wide.2 (show x.wp P (kpost P fn noEnd [.inv I]) a w from h a ha)) (fun e a w he => ?_))
  obtain ⟨rfl, hI⟩ := kpost_inv he
  exact hy a w hI
theorem seq3_of_rk {x y z u : Code} {Q : Exit → Act → World → Prop} {a : Act} (h : RK P fn noEnd N [.code x, .code y, .inv I] fr w) (ha : Rep N a fr) (hy : ∀ a w, I a w → z.wpIn Fence.wide n P (Exit.then (fun a w => u.wpIn Fence.wide n P Q a w) Q) a w) :
    (Code.seq x (.seq (.seq y z) u)).wpIn Fence.wide n P Q a w := by
  refine wpIn_seq (wpIn_mono (wpIn_wide.2 (show x.wp P (kpost P fn noEnd [.code y, .inv I]) a w from h a ha)) (fun e a w he => ?_))
  cases e with
  | normal =>
    refine wpIn_seq (wpIn_seq (wpIn_mono (wpIn_wide.2 (show y.wp P (kpost P fn noEnd [.inv I]) a w from he)) (fun e a w he => ?_)))
    obtain ⟨rfl, hI⟩ := kpost_inv he
    exact hy a w hI
  | ret => cases (kpost_inv (show kpost P fn noEnd [.inv I] .ret a w from he)).1
  | panic c => cases (kpost_inv (show kpost P fn noEnd [.inv I] (.panic c) a w from he)).1
  | outgrown => cases (kpost_inv (show kpost P fn noEnd [.inv I] .outgrown a w from he)).1
  | exit id => cases (kpost_inv (show kpost P fn noEnd [.inv I] (.exit id) a w from he)).1
  | goto t => cases (kpost_inv (show kpost P fn noEnd [.inv I] (.goto t) a w from he)).1
theorem entry_rep {args : List Value} (hl : Nat.ble args.length N = true) : Rep N { tmps := args.toArray ++ Array.replicate (N - args.toArray.size) undef, defers := [] } (entry args 0) := by
  have hl' : args.length ≤ N := by simpa using hl
  refine ⟨?_, rfl, ?_⟩
  · simp; omega
  · intro t v hv
    obtain ⟨_, h2⟩ := entry_get args 0 t v hv
    simp only [Nat.sub_zero] at h2
    have hlt : t < args.length := by
      rcases Nat.lt_or_ge t args.length with h | h
      · exact h
      · rw [List.getElem?_eq_none h] at h2; cases h2
    simp only [List.getElem?_toArray, Array.getElem?_append, List.size_toArray, hlt, if_true]
    exact h2

/-! In a round. -/
def plainOp (o : Oper) : Bool := match o.op with | .defer _ => false | _ => true
theorem semAt_plain {o : Oper} (h : plainOp o = true) (r : Nat) (ρ : Operand → Value) : o.semAt (some r) ρ = execOp ρ o :=
  Oper.semAt_some r ρ o (fun c e => by unfold plainOp at h; rw [e] at h; cases h)
theorem rowsIn_of {r m : Nat} {row : String} {args : Array Value} {R : Value → World → Prop} (h : Rows P row args w R) : RowsIn (Fence.wide.inRound r) m P row args w R := fun c cs _ => by
  obtain ⟨v, w', hR, hs⟩ := h c cs
  exact ⟨v, w', hR, (stepsIn_wide (P := P)).2 hs⟩
theorem operIn_of {r m : Nat} {o : Oper} {a : Act} {K K' : Act → World → Prop} {Q : Exit → Act → World → Prop} (ho : plainOp o = true) (hK : ∀ a w, K a w → K' a w) (h : o.wp P a w K Q) : o.wpIn (Fence.wide.inRound r) m P a w K' Q := by
  refine ⟨fun _ _ => trivial, ?_⟩
  show o.uponIn (Fence.wide.inRound r) m P a K' Q ((o.semAt (some r) a.eval).run P w)
  rw [semAt_plain ho]
  unfold Oper.wp at h
  generalize (execOp a.eval o).run P w = res at h ⊢
  match res, h with
  | .ok (.value v) w', h => exact hK _ _ h
  | .ok .skip w', h => exact hK _ _ h
  | .ok (.defer d) w', h => exact hK _ _ h
  | .ok (.enter f args) w', h =>
    refine ⟨fun e => (by cases e), ?_⟩
    refine CallsIn.inRound r (callsIn_wide.2 (Calls.mono h ?_))
    intro e w'' he
    cases e with
    | returned v => exact hK _ _ he
    | panicked c => exact he
    | outgrown => exact he
  | .ok (.row row args) w', h =>
    refine ⟨fun e => (by cases e), ?_⟩
    exact RowsIn.mono (rowsIn_of h) (fun v w'' hv => hK _ _ hv)
  | .halt (.panic v) w', h => exact h
theorem wpAnyIn_of {r m : Nat} {ops : Array Oper} {Q : Exit → Act → World → Prop} (hnd : ∀ (i : Nat) (o : Oper), ops[i]? = some o → plainOp o = true) (hout : ¬ LetsOut Q) : ∀ (fuel : Nat) (listed : Array Bool) (a : Act) (w : World), wpAny P .any ops Q fuel listed a w → wpAnyIn (Fence.wide.inRound r) m P .any ops Q fuel listed a w
  | 0, _, _, _, h => h
  | fuel + 1, listed, a, w, h => ⟨h.1, fun i hi => by
    have h2 := h.2 i hi
    unfold wpOp at h2
    unfold wpOpIn
    cases ho : ops[i]? with
    | none =>
      rw [ho] at h2
      exact wpAnyIn_of hnd hout fuel _ a w h2
    | some o =>
      rw [ho] at h2
      dsimp only at h2 ⊢
      by_cases hw : Region.wanted o (yielded ops a.tmps) = true
      · rw [if_pos hw] at h2 ⊢
        rcases h2 with h2 | h2
        · exact operIn_of (hnd i o ho) (fun a w => wpAnyIn_of hnd hout fuel _ a w) h2
        · exact absurd h2.2 hout
      · rw [if_neg hw] at h2 ⊢
        exact ⟨fun _ _ => trivial, wpAnyIn_of hnd hout fuel _ _ _ h2⟩⟩
/-- Code within a round that ends where I holds. -/
def RIn (P : Program) (fn : Func) (N : Nat) (I : Act → World → Prop) (r m : Nat) (c : Code) (fr : Fr) (w : World) : Prop := ∀ a, Rep N a fr → c.wpIn (Fence.wide.inRound r) m P (kpost P fn noEnd [.inv I]) a w
theorem in_at {r m id : Nat} {l l' : List Oper} (row : Rw) (D A : List Nat) (L C : Nat) (ts : List (Tag × Nat)) (hm : P.follows .mixedOrders = true) (hD : l.map (dmask .any) = D) (hA : ancs .any l [] = A)
    (hc : (Region.noSelect l.toArray && (Nat.beq (l'.length + extra ts) l.length && chk l.toArray l D A L C ts 0)) = true) (hl : l'.map some = opsOf l.toArray ts) (hnd : l.all plainOp = true)
    (h : WL P fn noEnd N [.inv I] l.toArray (some (row, ts)) l' fr w.drew) : RIn P fn N I r m (.region id l.toArray true) fr w := fun a ha => by
  simp only [Bool.and_eq_true] at hc
  obtain ⟨h1, h2, h3⟩ := hc
  refine wpIn_region_any hm (wpAnyIn_of (fun i o hi => ?_) noOut _ _ _ _ (wpAny_of_mix (loud := Nat.testBit L) (calm := Nat.testBit C) (row := row) _ _ _ _ ?_))
  · exact List.all_eq_true.1 hnd o (List.mem_of_getElem? (by simpa using hi))
  · have hno : ∀ j, (Array.replicate l.length false).getD j false = false := fun j => by
      rcases Nat.lt_or_ge j l.length with h' | h'
      · simp [h']
      · simp [h']
    have := left_elim (h a ha) (listed := Array.replicate l.length false) (m := 0) ⟨by simp, fun j => by rw [hno j]; simp, hD.symm, hA.symm, h1, fun j oj hj hl => by rw [hno j] at hl; cases hl⟩ hl h3
    rw [Nat.eq_of_beq_eq_true h2] at this
    simpa using this
theorem in_draw {r m id : Nat} {l : List Oper} (row : Option Nat) (D A : List Nat) (L C : Nat) (ts : List (Tag × Nat)) (hm : P.follows .mixedOrders = true) (hD : l.map (dmask .any) = D) (hA : ancs .any l [] = A)
    (hc : (Region.noSelect l.toArray && (Nat.beq (l.length + extra ts) l.length && chk l.toArray l D A L C ts 0)) = true) (hl : l.map some = opsOf l.toArray ts) (h : WL P fn noEnd N [.inv I] l.toArray (some ((row, none), ts)) l fr w.drew) (hnd : l.all plainOp = true := by kernel_rfl) :
    RIn P fn N I r m (.region id l.toArray true) fr w := in_at (row, none) D A L C ts hm hD hA hc hl hnd h
theorem in_drawo {r m id : Nat} {l : List Oper} (row : Option Nat) (D A : List Nat) (L C : Nat) (ord : List Nat) (ts : List (Tag × Nat)) (hm : P.follows .mixedOrders = true) (hD : l.map (dmask .any) = D) (hA : ancs .any l [] = A)
    (hc : (Region.noSelect l.toArray && (Nat.beq ((inOrder l ord).length + extra ts) l.length && chk l.toArray l D A L C ts 0)) = true) (hl : (inOrder l ord).map some = opsOf l.toArray ts) (h : WL P fn noEnd N [.inv I] l.toArray (some ((row, none), ts)) (inOrder l ord) fr w.drew) (hnd : l.all plainOp = true := by kernel_rfl) :
    RIn P fn N I r m (.region id l.toArray true) fr w := in_at (row, none) D A L C ts hm hD hA hc hl hnd h

theorem wpListIn_of {r m : Nat} {ops : Array Oper} {Q : Exit → Act → World → Prop} (hout : ¬ LetsOut Q) : ∀ (l : List Oper) (a : Act) (w : World), (∀ o ∈ l, plainOp o = true) → wpList P ops Q l a w → wpListIn (Fence.wide.inRound r) m P ops Q l a w
  | [], _, _, _, h => h
  | o :: l, a, w, hnd, h => by
    unfold wpList at h
    unfold wpListIn
    by_cases hw : Region.wanted o (yielded ops a.tmps) = true
    · rw [if_pos hw] at h ⊢
      rcases h with h | h
      · exact operIn_of (hnd o (by simp)) (fun a w => wpListIn_of hout l a w (fun o ho => hnd o (by simp [ho]))) h
      · exact absurd h.2 hout
    · rw [if_neg hw] at h ⊢
      exact ⟨fun _ _ => trivial, wpListIn_of hout l _ _ (fun o ho => hnd o (by simp [ho])) h⟩
/-- A region whose order is given. -/
theorem in_plain {r m id : Nat} {l : List Oper} (h : WL P fn noEnd N [.inv I] l.toArray none l fr w) (hnd : l.all plainOp = true := by kernel_rfl) : RIn P fn N I r m (.region id l.toArray false) fr w := fun a ha =>
  wpIn_region_lit (wpListIn_of noOut l a w (List.all_eq_true.1 hnd) (h a ha))
theorem keeps_grew {w w' : World} {e : TypeId} {row : Option Nat} (h : Grew w w' e row) : KeepsOthers w w' := KeepsOthers.of_grownBy h.g (fun j o e ho => by
  obtain ⟨cs, f, hcs⟩ := h.2 j e
  rw [hcs] at ho
  injection ho with ho
  subst ho; rfl)
theorem keeps_below {w w' : World} (h : Below w.heap.size w w') : KeepsOthers w w' := KeepsOthers.of_grownBy (grown_of_below h none) (fun j o e => by cases e)

/-! Calls of yield. -/
def WLI (P : Program) (fn : Func) (F : Ending → World → Prop) (N n : Nat) (ks : List K) (ops : Array Oper) (l : List Oper) (fr : Fr) (w : World) : Prop := ∀ a, Rep N a fr → wpListIn Fence.wide n P ops (kpost P fn F ks) l a w
variable {ops : Array Oper} {l : List Oper} {ty : TypeId} {pos : String} {aft : Array Edge} {d : Nat} {x y : Operand} {op : Op} {v : Value} {w' : World}
theorem rk_regionI (n : Nat) {id : Nat} (h : WLI P fn F N n ks l.toArray l fr w) : RK P fn F N (.code (.region id l.toArray false) :: ks) fr w := fun a ha => (wpIn_wide (n := n)).1 (wpIn_region_lit (h a ha))
theorem wli_nil (h : RK P fn F N ks fr w) : WLI P fn F N n ks ops [] fr w := fun a ha => wpListIn_nil (h a ha)
variable {gd : Option (Nat × Bool)}
theorem wli_p (h : OpV P N fr w op ty v w') (hk : WLI P fn F N n ks ops l ((d, v) :: fr) w') (hg : onG ops fr gd = true := by rfl) (hd : Nat.blt d N = true := by rfl) : WLI P fn F N n ks ops (⟨some d, op, ty, pos, aft, gd⟩ :: l) fr w := fun a ha => by
  unfold wpListIn
  rw [if_pos (wanted_on (o := ⟨some d, op, ty, pos, aft, gd⟩) ha hg)]
  refine ⟨fun _ _ => trivial, ?_⟩
  show Oper.uponIn Fence.wide n P _ a _ _ ((execOp a.eval _).run P w)
  rw [h a ha _ rfl rfl]
  exact hk _ (ha.put hd v)
/-- An operation that is passed over. -/
theorem wli_off (hk : WLI P fn F N n ks ops l ((d, undef) :: fr) w) (hg : offG ops fr gd = true := by rfl) (hd : Nat.blt d N = true := by rfl) : WLI P fn F N n ks ops (⟨some d, op, ty, pos, aft, gd⟩ :: l) fr w := fun a ha => by
  unfold wpListIn
  rw [if_neg (by rw [wanted_off (o := ⟨some d, op, ty, pos, aft, gd⟩) ha hg]; simp)]
  exact ⟨fun _ _ => trivial, hk _ (ha.put hd undef)⟩
theorem wli_bool (t : Nat) {b : Bool} (ht : fr.get t = some (.bool b)) (h1 : b = true → WLI P fn F N n ks ops l ((t, .bool true) :: fr) w) (h0 : b = false → WLI P fn F N n ks ops l ((t, .bool false) :: fr) w) :
    WLI P fn F N n ks ops l fr w := fun a ha => by
  have hr : ∀ c : Bool, b = c → Rep N a ((t, .bool c) :: fr) := fun c hc => ⟨ha.size, ha.defers, fun u x hx => by
    rw [Fr.get_cons] at hx
    by_cases e : t = u
    · subst e
      rw [if_pos rfl] at hx
      rw [← Option.some.inj hx, ← hc]
      exact ha.get t _ ht
    · rw [if_neg e] at hx
      exact ha.get u x hx⟩
  cases hb : b with
  | true => exact h1 hb a (hr true hb)
  | false => exact h0 hb a (hr false hb)
theorem wli_yield {lp : Nat} {ts : Array TypeId} {u : Value} {R : Ending → World → Prop} (hx : fr.ev x = some (.func (.yield lp) #[] #[])) (hy : fr.ev y = some u) (hY : YieldAt Fence.wide (n - 1) P lp #[u] w R)
    (hk : ∀ e w', R e w' → ∃ b, e = .returned (.bool b) ∧ WLI P fn F N n ks ops l ((d, .bool b) :: fr) w') (hg : onG ops fr gd = true := by rfl) (hd : Nat.blt d N = true := by rfl) :
    WLI P fn F N n ks ops (⟨some d, .call { callee := .value x, args := #[y], argTypes := ts }, ty, pos, aft, gd⟩ :: l) fr w := fun a ha => by
  obtain ⟨f, tmps, assign, body, h1, h2⟩ := hY
  unfold wpListIn
  rw [if_pos (wanted_on (o := ⟨some d, .call { callee := .value x, args := #[y], argTypes := ts }, ty, pos, aft, gd⟩) ha hg)]
  refine ⟨fun _ _ => trivial, ?_⟩
  have hsem : ∀ o : Oper, o.semAt Fence.wide.round a.eval = execOp a.eval o := fun _ => rfl
  have hrun : (execOp a.eval ⟨some d, .call { callee := .value x, args := #[y], argTypes := ts }, ty, pos, aft, gd⟩).run P w = .ok (.round lp f tmps assign body) w := by
    simp [execOp, resolve, invoke, Deferred.ofValue, ha.ev hx, ha.ev hy, h1]
  rw [hsem, hrun]
  refine ⟨fun e => (by cases e), h2.mono ?_⟩
  intro e w' he
  obtain ⟨b, rfl, hw⟩ := hk e w' he
  exact hw _ (ha.put hd _)
end
end Go.Proofs.Ytpjedpmbninfcaa
