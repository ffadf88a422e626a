/-
  Walks of headwaterkit that several chapters share: Pick; maps of numbers that hold 0 or 1.
-/
import Derived.Test.YtbncaabcddoicaaAuto
import Derived.OpenShut
import Derived.Maps.OwnSet
import Derived.Carry
namespace Go.Proofs.Ytbncaabcddoicaa
open Go.RowKit

theorem tmod_neg (n m : Int) (hm : 0 < m) (h : n.tmod m < 0) : n % m = n.tmod m + m := by
  have e := Int.tmod_eq_emod (a := n) (b := m)
  have h1 := Int.emod_nonneg n (b := m) (by omega)
  split at e <;> omega
theorem tmod_pos (n m : Int) (hm : 0 < m) (h : ¬ n.tmod m < 0) : n % m = n.tmod m := by
  have e := Int.tmod_eq_emod (a := n) (b := m)
  have h2 := Int.emod_lt_of_pos n hm
  split at e <;> omega
def pick (n m : Int) : Int := if m < 1 then 0 else n % m
theorem i64_wf {n : Int} (h : -9223372036854775808 ≤ n ∧ n ≤ 9223372036854775807) : (Lit.int .i64 n).wf = true := by
  simp only [Lit.wf, Bool.and_eq_true, decide_eq_true_eq]
  exact h
theorem pick_range (n m : Int) (hm : 1 ≤ m) : 0 ≤ pick n m ∧ pick n m < m := by
  rw [pick, if_neg (by omega)]
  exact ⟨Int.emod_nonneg n (by omega), Int.emod_lt_of_pos n (by omega)⟩
theorem C_Pick (n m : Int) (wn : (Lit.int .i64 n).wf = true) (wm : (Lit.int .i64 m).wf = true) (w : World) :
    CallsR Try.prog 31 [.int .i64 n, .int .i64 m] w fun v w' => v = .int .i64 (pick n m) ∧ w' = w := by
  have bn := bounds_i64 wn
  have bm := bounds_i64 wm
  refine callsR Try.func31 rfl rfl (by kernel_rfl) rfl ?_
  refine rk_seq ?_
  refine rk_region ?_
  refine wl_p (fun _ => o_assign rfl) ?_
  refine wl_nil ?_
  refine rk_seq ?_
  refine rk_seq ?_
  refine rk_region ?_
  refine wl_p (fun _ => o_move rfl) ?_
  refine wl_p (fun _ => o_lt rfl rfl) ?_
  refine wl_nil ?_
  refine rk_if rfl (fun h => ?_) (fun h => ?_)
  · refine rk_seq ?_
    refine rk_region ?_
    refine wl_p (fun _ => o_assign rfl) ?_
    refine wl_nil ?_
    refine ret1 rfl rfl ?_
    exact ⟨by rw [pick, if_pos h], rfl⟩
  · refine rk_skip ?_
    refine rk_seq ?_
    refine rk_region ?_
    refine wl_p (fun _ => o_move rfl) ?_
    refine wl_p (fun _ => o_move rfl) ?_
    refine wl_p (fun _ => o_remz rfl rfl (by omega)) ?_
    refine wl_p (fun _ => o_assign rfl) ?_
    refine wl_nil ?_
    refine rk_seq ?_
    refine rk_seq ?_
    refine rk_region ?_
    refine wl_p (fun _ => o_move rfl) ?_
    refine wl_p (fun _ => o_lt rfl rfl) ?_
    refine wl_nil ?_
    refine rk_if rfl (fun h2 => ?_) (fun h2 => ?_)
    · have e := tmod_neg n m (by omega) h2
      have e1 := Int.emod_nonneg n (b := m) (by omega)
      have e2 := Int.emod_lt_of_pos n (b := m) (by omega)
      refine rk_region ?_
      refine wl_p (fun _ => o_move rfl) ?_
      refine wl_p (fun _ => o_move rfl) ?_
      refine wl_p (fun _ => o_add rfl rfl (by omega) (by omega)) ?_
      refine wl_p (fun _ => o_assign rfl) ?_
      refine wl_nil ?_
      refine rk_seq ?_
      refine rk_region ?_
      refine wl_p (fun _ => o_move rfl) ?_
      refine wl_p (fun _ => o_assign rfl) ?_
      refine wl_nil ?_
      refine ret1 rfl rfl ?_
      exact ⟨by rw [pick, if_neg h, tmod_neg n m (by omega) h2], rfl⟩
    · refine rk_skip ?_
      refine rk_seq ?_
      refine rk_region ?_
      refine wl_p (fun _ => o_move rfl) ?_
      refine wl_p (fun _ => o_assign rfl) ?_
      refine wl_nil ?_
      refine ret1 rfl rfl ?_
      exact ⟨by rw [pick, if_neg h, tmod_pos n m (by omega) h2], rfl⟩

/-- Block b is a map of numbers: 1 for those of L, 0 for others. -/
def CntI (w : World) (b : Nat) (L : List Int) : Prop :=
  ∃ m D, w.ownsMap (H := Unit) Try.prog 3 (plainElem Try.prog 3) b m D ∧ m ≤ L.length ∧ ∀ z, (Lit.int .i64 z).wf = true → D.atKey (.int .i64 z) (.lit (.int .i64 0)) = .lit (.int .i64 (if z ∈ L then 1 else 0))
theorem Try.keyI : Go.Maps.Keyed Try.prog 3 := Go.Maps.int_keyed Try.underlying3
section
variable {w w' : World} {b n : Nat} {L : List Int} {row : Option Nat}
theorem CntI.lt (h : CntI w b L) : b < w.heap.size := by obtain ⟨m, D, h, -⟩ := h; exact h.lt
theorem CntI.u (h : CntI w b L) (hb : Below w.heap.size w w') : CntI w' b L := by
  obtain ⟨m, D, h, h2⟩ := h
  exact ⟨m, D, h.kept (row := none) (grownBy_of_below hb none) (by simp), h2⟩
theorem CntI.k (h : CntI w b L) (hg : w.grownBy w' row) (ha : Ap row b (b + 1)) : CntI w' b L := by
  obtain ⟨m, D, h, h2⟩ := h
  exact ⟨m, D, h.kept hg (fun e => by have := ha b e.symm; omega), h2⟩
theorem CntI.y {e : TypeId} (h : CntI w b L) (hg : Grew w w' e row) (_ : 0 = 0) : CntI w' b L := by
  obtain ⟨m, D, h, h2⟩ := h
  refine ⟨m, D, h.kept hg.g (fun e' => ?_), h2⟩
  obtain ⟨cs, f, h3⟩ := hg.ty b e'.symm
  obtain ⟨_, _, h4, _⟩ := h
  rw [h4] at h3
  cases h3
theorem CntI.d (h : CntI w b L) : CntI w.drew b L := h
end
section
variable {P : Program} {fn : Func} {F : Ending → World → Prop} {N : Nat} {ks : List K} {ops : Array Oper} {tg : Tags} {l : List Oper} {fr : Fr} {w : World} {ty t t' e : TypeId} {pos : String} {aft : Array Edge} {gd : Option (Nat × Bool)} {d b n : Nat} {x y z : Operand} {L : List Int} {q : Int}
--@ rule lookup r o_lookI
/-- m[x], whose values are 0 or 1 -/
theorem o_lookI (hu : Try.prog.underlying t = some (.map 3 3)) (hx : fr.ev x = some (.map (some b))) (hy : fr.ev y = some (.int .i64 q)) (hS : CntI w b L) (hq : (Lit.int .i64 q).wf = true) :
    OpV Try.prog N fr w (.lookup t x y false) ty (.int .i64 (if q ∈ L then 1 else 0)) w := fun a ha o ho' _ => by
  obtain ⟨m, D, ho, hm, hh⟩ := hS
  obtain ⟨c, hrun, hat, -⟩ := ho.lookup_int Try.keyI hu Try.underlying3 (Try.zeroValue3 w) (Go.Maps.keyOf_int_mk Try.underlying3 hq)
  rw [hh q hq] at hat
  injection hat with hat
  injection hat with _ hat
  rw [← hat] at hrun
  simp [execOp, ho', ha.ev hx, ha.ev hy, hrun]
--@ rule mapUpdate l wl_cntI
/-- m[x] = 1 -/
theorem wl_cntI (hu : Try.prog.underlying t = some (.map 3 3)) (hx : fr.ev x = some (.map (some b))) (hy : fr.ev y = some (.int .i64 q)) (hz : fr.ev z = some (.int .i64 1)) (hS : CntI w b L) (hq : (Lit.int .i64 q).wf = true) (hL : L.length ≤ 4000000)
    (hk : ∀ w', CntI w' b (L ++ [q]) → GrewM w w' b → w'.heap.size = w.heap.size → WL Try.prog fn F N ks ops tg.tail l fr w')
    (ht : tg.loud = true := by rfl) (hg : onG ops fr gd = true := by rfl) (hq : tg.calm = false ∨ some b = tg.row := by exact .inl rfl) : WL Try.prog fn F N ks ops tg (⟨none, .mapUpdate t x y z, ty, pos, aft, gd⟩ :: l) fr w := by
  rename_i hq0
  obtain ⟨m, D, ho, hm, hh⟩ := hS
  obtain ⟨w', hrun, ho', hT⟩ := ho.store Try.keyI hu (by simp only [maxLen]; omega) (Go.Maps.keyOf_int_mk Try.underlying3 hq0) (plainElem_int Try.underlying3 (by decide : (Lit.int .i64 1).wf = true))
  have hgr := hT.grown
  have hz' : w'.heap.size = w.heap.size := by obtain ⟨_, _, _, _, _, rfl⟩ := hT; simp [Go.ChangeMaps.setBlock]
  refine wl_u (w' := w') (fun a ha o hop => ?_) (hk w' ⟨m + 1, _, ho', by rw [List.length_append]; simp; omega, fun d hd => ?_⟩ ⟨hgr, by obtain ⟨_, _, h4, _⟩ := ho; exact ⟨_, _, h4⟩⟩ hz') ht hg (hq.imp id fun (e : some b = tg.row) => e ▸ hgr)
  · simp [execOp, hop, ha.ev hx, ha.ev hy, ha.ev hz, hrun]
  · by_cases hd' : d = q
    · subst hd'
      rw [Maps.atKey_put_same ho.isMap (Try.keyI.key (Go.Maps.keyOf_int_mk Try.underlying3 hq0))]
      simp
    · rw [Maps.atKey_put_other (fun h => hd' (by injection h)), hh d hd]
      simp [hd']
--@ rule makeMap l wl_makeI
theorem wl_makeI (hu : Try.prog.underlying t = some (.map 3 3)) (hk : ∀ b w', CntI w' b [] → Below w.heap.size w w' → w.heap.size ≤ b → b < w'.heap.size → WL Try.prog fn F N ks ops tg.tail l ((d, .map (some b)) :: fr) w')
    (ht : tg.loud = true := by rfl) (hg : onG ops fr gd = true := by rfl) (hd : Nat.blt d N = true := by rfl) : WL Try.prog fn F N ks ops tg (⟨some d, .makeMap t none, ty, pos, aft, gd⟩ :: l) fr w :=
  wl_v (w' := w.alloc (.map #[] 0)) (fun a _ o ho _ => by simp [execOp, ho, run_makeMap]) (hk _ _ ⟨0, .map [], World.ownsMap_made w _ _ _, Nat.le_refl _, fun d _ => by simp [DataW.atKey]⟩ (below_alloc w _) (Nat.le_refl _) (by simp)) ht hg hd (.inr (grown_of_below (below_alloc w _) _))
end
end Go.Proofs.Ytbncaabcddoicaa
