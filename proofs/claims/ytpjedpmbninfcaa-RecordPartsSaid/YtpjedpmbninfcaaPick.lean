/-
  Walk of headwaterkit.Pick.
-/
import Derived.Test.YtpjedpmbninfcaaGo
namespace Go.Proofs.Ytpjedpmbninfcaa
open Go.RowKit
theorem tmod_neg (n m : Int) (hm : 0 < m) (h : n.tmod m < 0) : n % m = n.tmod m + m := by
  have e := Int.tmod_eq_emod (a := n) (b := m)
  have h1 := Int.emod_nonneg n (b := m) (by omega)
  split at e <;> omega
theorem tmod_pos (n m : Int) (hm : 0 < m) (h : ¬ n.tmod m < 0) : n % m = n.tmod m := by
  have e := Int.tmod_eq_emod (a := n) (b := m)
  have h2 := Int.emod_lt_of_pos n hm
  split at e <;> omega
def pick (n m : Int) : Int := if m < 1 then 0 else n % m
theorem i64_wf {n : Int} (h : -9223372036854775808 ≤ n ∧ n ≤ 9223372036854775807) : (Lit.int .i64 n).wf = true := by
  simp only [Lit.wf, Bool.and_eq_true, decide_eq_true_eq]
  exact h
theorem pick_range (n m : Int) (hm : 1 ≤ m) : 0 ≤ pick n m ∧ pick n m < m := by
  rw [pick, if_neg (by omega)]
  exact ⟨Int.emod_nonneg n (by omega), Int.emod_lt_of_pos n (by omega)⟩
theorem C_Pick (n m : Int) (wn : (Lit.int .i64 n).wf = true) (wm : (Lit.int .i64 m).wf = true) (w : World) :
    CallsR Try.prog 17 [.int .i64 n, .int .i64 m] w fun v w' => v = .int .i64 (pick n m) ∧ w' = w := by
  have bn := bounds_i64 wn
  have bm := bounds_i64 wm
  refine callsR Try.func17 rfl rfl (by kernel_rfl) rfl ?_
  refine rk_seq ?_
  refine rk_region ?_
  refine wl_p (fun _ => o_assign rfl) ?_
  refine wl_nil ?_
  refine rk_seq ?_
  refine rk_seq ?_
  refine rk_region ?_
  refine wl_p (fun _ => o_move rfl) ?_
  refine wl_p (fun _ => o_lt rfl rfl) ?_
  refine wl_nil ?_
  refine rk_if rfl (fun h => ?_) (fun h => ?_)
  · refine rk_seq ?_
    refine rk_region ?_
    refine wl_p (fun _ => o_assign rfl) ?_
    refine wl_nil ?_
    refine ret1 rfl rfl ?_
    exact ⟨by rw [pick, if_pos h], rfl⟩
  · refine rk_skip ?_
    refine rk_seq ?_
    refine rk_region ?_
    refine wl_p (fun _ => o_move rfl) ?_
    refine wl_p (fun _ => o_move rfl) ?_
    refine wl_p (fun _ => o_remz rfl rfl (by omega)) ?_
    refine wl_p (fun _ => o_assign rfl) ?_
    refine wl_nil ?_
    refine rk_seq ?_
    refine rk_seq ?_
    refine rk_region ?_
    refine wl_p (fun _ => o_move rfl) ?_
    refine wl_p (fun _ => o_lt rfl rfl) ?_
    refine wl_nil ?_
    refine rk_if rfl (fun h2 => ?_) (fun h2 => ?_)
    · have e := tmod_neg n m (by omega) h2
      have e1 := Int.emod_nonneg n (b := m) (by omega)
      have e2 := Int.emod_lt_of_pos n (b := m) (by omega)
      refine rk_region ?_
      refine wl_p (fun _ => o_move rfl) ?_
      refine wl_p (fun _ => o_move rfl) ?_
      refine wl_p (fun _ => o_add rfl rfl (by omega) (by omega)) ?_
      refine wl_p (fun _ => o_assign rfl) ?_
      refine wl_nil ?_
      refine rk_seq ?_
      refine rk_region ?_
      refine wl_p (fun _ => o_move rfl) ?_
      refine wl_p (fun _ => o_assign rfl) ?_
      refine wl_nil ?_
      refine ret1 rfl rfl ?_
      exact ⟨by rw [pick, if_neg h, tmod_neg n m (by omega) h2], rfl⟩
    · refine rk_skip ?_
      refine rk_seq ?_
      refine rk_region ?_
      refine wl_p (fun _ => o_move rfl) ?_
      refine wl_p (fun _ => o_assign rfl) ?_
      refine wl_nil ?_
      refine ret1 rfl rfl ?_
      exact ⟨by rw [pick, if_neg h, tmod_pos n m (by omega) h2], rfl⟩
theorem C_PickR {n m r : Int} (w : World) (hr : pick n m = r) (wn : (Lit.int .i64 n).wf = true) (wm : (Lit.int .i64 m).wf = true) :
    CallsR Try.prog 17 [.int .i64 n, .int .i64 m] w fun v w' => v = .int .i64 r ∧ Below w.heap.size w w' := by
  refine (C_Pick n m wn wm w).mono ?_
  rintro v w' ⟨rfl, rfl⟩
  exact ⟨congrArg _ hr, Below.refl _ _⟩
end Go.Proofs.Ytpjedpmbninfcaa
