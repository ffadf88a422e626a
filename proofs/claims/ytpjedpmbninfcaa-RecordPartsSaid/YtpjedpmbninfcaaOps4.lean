/-
  Where ways meet again: joins. No function of the program is named here.
-/
import Derived.Test.YtpjedpmbninfcaaOps3
namespace Go.Proofs.Ytpjedpmbninfcaa
open Go.RowKit
section
variable {P : Program} {fn : Func} {F : Ending → World → Prop} {N : Nat} {ks : List K} {k : K} {ops : Array Oper} {l : List Oper} {fr : Fr} {w : World} {tg : Tags}

/-- All ways through k come to a state of R; from there it goes on once. -/
theorem rk_join (R : Fr → World → Prop) (h2 : ∀ fr w, R fr w → RK P fn F N ks fr w) (h1 : ∀ ks, (∀ fr w, R fr w → RK P fn F N ks fr w) → RK P fn F N (k :: ks) fr w) : RK P fn F N (k :: ks) fr w := h1 ks h2
theorem rk_joinb {id : Nat} (R : Fr → World → Prop) (h2 : ∀ fr w, R fr w → RK P fn F N ks fr w) (h1 : ∀ ks, (∀ fr w, R fr w → RK P fn F N ks fr w) → RK P fn F N (k :: .blk id :: ks) fr w) : RK P fn F N (k :: .blk id :: ks) fr w := h1 ks h2
/-- The same where a way may leave by what lies beneath (a loop's round, an outer block). -/
theorem rk_joinc (R : Fr → World → Prop) (h2 : ∀ fr w, R fr w → RK P fn F N ks fr w) (h1 : (∀ fr w, R fr w → RK P fn F N ks fr w) → RK P fn F N (k :: ks) fr w) : RK P fn F N (k :: ks) fr w := h1 h2
theorem rk_to {R : Fr → World → Prop} (hj : ∀ fr w, R fr w → RK P fn F N ks fr w) {fr0 : Fr} (hs : Fr.sub fr0 fr) (h : R fr0 w) : RK P fn F N ks fr w := (hj fr0 w h).sub hs

/-- The same within a region: all ways through the next n operations come to a state of R. -/
def Tags.tails : Nat → Tags → Tags
  | 0, tg => tg
  | n + 1, tg => Tags.tails n tg.tail
theorem wl_join (n : Nat) (R : Fr → World → Prop) (h2 : ∀ fr w, R fr w → WL P fn F N ks ops (Tags.tails n tg) (l.drop n) fr w) (h1 : (∀ fr w, R fr w → WL P fn F N ks ops (Tags.tails n tg) (l.drop n) fr w) → WL P fn F N ks ops tg l fr w) : WL P fn F N ks ops tg l fr w := h1 h2
theorem wl_to {R : Fr → World → Prop} (hj : ∀ fr w, R fr w → WL P fn F N ks ops tg l fr w) {fr0 : Fr} (hs : Fr.sub fr0 fr) (h : R fr0 w) : WL P fn F N ks ops tg l fr w := fun a ha => hj fr0 w h a (ha.sub hs)

section
variable {x y : Operand} {m n : Int} {t t' ty : TypeId} {ik : IntKind}
theorem o_remz (hx : fr.ev x = some (.int ik m)) (hy : fr.ev y = some (.int ik n)) (h : n ≠ 0) : OpV P N fr w (.binOp .rem t x y t') ty (.int ik (m.tmod n)) w := o_bin hx hy eqg_int (by
  rw [binOp_rem]
  simp [Op.intDiv, h])
theorem o_remu (hx : fr.ev x = some (.int ik m)) (hy : fr.ev y = some (.int ik n)) (h0 : 0 ≤ m) (h2 : 0 < n) : OpV P N fr w (.binOp .rem t x y t') ty (.int ik (m % n)) w := o_bin hx hy eqg_int (by
  rw [binOp_rem]
  have hne : n ≠ 0 := by omega
  have e : m.tmod n = m % n := Int.tmod_eq_emod_of_nonneg h0
  simp [Op.intDiv, hne, e])
theorem o_quoz (hx : fr.ev x = some (.int ik m)) (hy : fr.ev y = some (.int ik n)) (h : n ≠ 0) : OpV P N fr w (.binOp .quo t x y t') ty (.int ik (ik.wrap (m.tdiv n))) w := o_bin hx hy eqg_int (by
  rw [binOp_quo]
  simp [Op.intDiv, h])
theorem o_quou (hx : fr.ev x = some (.int ik m)) (hy : fr.ev y = some (.int ik n)) (h0 : 0 ≤ m) (h2 : 0 < n) : OpV P N fr w (.binOp .quo t x y t') ty (.int ik (ik.wrap (m / n))) w := o_bin hx hy eqg_int (by
  rw [binOp_quo]
  have hne : n ≠ 0 := by omega
  have e : m.tdiv n = m / n := Int.tdiv_eq_ediv_of_nonneg h0
  simp [Op.intDiv, hne, e])
end
end
end Go.Proofs.Ytpjedpmbninfcaa
