/-
  The statement ShaRoots: a root is the greatest number whose square is not above.
-/
import Derived.Test.YtldhmnakkkjenaaShI
namespace Go.Proofs.Ytldhmnakkkjenaa
open Go.RowKit
/-! Words of a square, and of the next one. -/
theorem roots_core {M N s r : Nat} (h1 : s * s ≤ N) (g1 : (s * M + r) * (s * M + r) ≤ N * (M * M)) (g2 : N * (M * M) < (s * M + r + 1) * (s * M + r + 1)) : 2 * s * r * M + r * r ≤ (N - s * s) * (M * M) ∧ (N - s * s) * (M * M) < 2 * s * r * M + r * r + 2 * r + 1 + 2 * s * M := by
  obtain ⟨d, rfl⟩ : ∃ d, N = s * s + d := ⟨N - s * s, by omega⟩
  rw [Nat.add_sub_cancel_left]
  constructor
  · grind
  · grind
theorem root_parts {M N s R : Nat} (hM : 0 < M) (h1 : s * s ≤ N) (h2 : N < (s + 1) * (s + 1)) (g1 : R * R ≤ N * (M * M)) (g2 : N * (M * M) < (R + 1) * (R + 1)) : R / M = s := by
  have hd := Nat.div_add_mod R M
  have hl := Nat.mod_lt R hM
  rcases Nat.lt_trichotomy (R / M) s with h | h | h
  · have h3 : R + 1 ≤ s * M := by
      have : (R / M + 1) * M ≤ s * M := Nat.mul_le_mul_right _ h
      rw [Nat.add_mul, Nat.mul_comm] at this
      omega
    have h4 : (R + 1) * (R + 1) ≤ s * M * (s * M) := Nat.mul_le_mul h3 h3
    rw [Nat.mul_mul_mul_comm s M s M] at h4
    have h5 : s * s * (M * M) ≤ N * (M * M) := Nat.mul_le_mul_right _ h1
    omega
  · exact h
  · have h3 : (s + 1) * M ≤ R := by
      have : (s + 1) * M ≤ R / M * M := Nat.mul_le_mul_right _ h
      rw [Nat.mul_comm (R / M)] at this
      omega
    have h4 : (s + 1) * M * ((s + 1) * M) ≤ R * R := Nat.mul_le_mul h3 h3
    rw [Nat.mul_mul_mul_comm (s + 1) M (s + 1) M] at h4
    have h5 : (N + 1) * (M * M) ≤ (s + 1) * (s + 1) * (M * M) := Nat.mul_le_mul_right _ h2
    rw [Nat.add_mul] at h5
    have h6 : 0 < M * M := Nat.mul_pos hM hM
    omega
theorem roots_law {N s r : Nat} (hN : N < 4294967296) (h1 : s * s ≤ N) (h2 : N < (s + 1) * (s + 1)) (hr : root N 2 % 18446744073709551616 = r) :
    2 * s * r * 18446744073709551616 + r * r ≤ (N - s * s) * (18446744073709551616 * 18446744073709551616) ∧ (N - s * s) * (18446744073709551616 * 18446744073709551616) < 2 * s * r * 18446744073709551616 + r * r + 2 * r + 1 + 2 * s * 18446744073709551616 := by
  obtain ⟨g1, g2⟩ := root_spec (n := N) (k := 2) hN (by decide)
  obtain ⟨R, hR⟩ : ∃ R, root N 2 = R := ⟨_, rfl⟩
  rw [hR] at hr g1 g2
  simp only [Nat.pow_two] at g1 g2
  have hq := root_parts (by decide) h1 h2 g1 g2
  have hRe : R = s * 18446744073709551616 + r := by omega
  rw [hRe] at g1 g2
  exact roots_core h1 g1 g2
theorem words_low {M q c tp mi hi lo m2 ca : Nat} (h1 : q = M * tp + mi) (h2 : c = M * hi + lo) (h3 : mi + hi = M * ca + m2) : (tp + ca) * (M * M) + m2 * M + lo = q * M + c := by
  subst h1 h2
  grind
theorem words_high {M T V r s tp m2 lo ov ra c1 x1 e x2 f y1 g y2 : Nat} (h0 : tp * (M * M) + m2 * M + lo = T) (h1 : 2 * r = M * ov + ra) (h2 : lo + ra = M * c1 + x1) (h3 : x1 + 1 = M * e + x2) (h4 : m2 + 2 * s + c1 = M * f + y1) (h5 : y1 + (ov + e) = M * g + y2) (hV : V = T + 2 * r + 1 + 2 * s * M) : (tp + f + g) * (M * M) + y2 * M + x2 = V := by
  have p4 := congrArg (· * M) h4
  have p5 := congrArg (· * M) h5
  simp only [Nat.add_mul] at p4 p5
  rw [Nat.mul_comm M ov] at h1
  rw [Nat.mul_comm M c1] at h2
  rw [Nat.mul_comm M e] at h3
  rw [Nat.mul_comm M f, Nat.mul_assoc f] at p4
  rw [Nat.mul_comm M g, Nat.mul_assoc g] at p5
  rw [Nat.add_mul, Nat.add_mul]
  omega
theorem words_le {M T d tp m2 lo : Nat} (h0 : tp * (M * M) + m2 * M + lo = T) (h : T ≤ d * (M * M)) (hM : 0 < M) : ¬ (d < tp ∨ tp = d ∧ (m2 ≠ 0 ∨ lo ≠ 0)) := by
  rintro (h1 | ⟨rfl, h1⟩)
  · have h2 : (d + 1) * (M * M) ≤ tp * (M * M) := Nat.mul_le_mul_right _ h1
    rw [Nat.add_mul] at h2
    have h6 : 0 < M * M := Nat.mul_pos hM hM
    omega
  · have h3 : 0 < m2 → 0 < m2 * M := fun h => Nat.mul_pos h hM
    omega
theorem words_gt {M T d tp m2 lo : Nat} (h0 : tp * (M * M) + m2 * M + lo = T) (h : d * (M * M) < T) (h1 : m2 < M) (h2 : lo < M) : d < tp ∨ tp = d ∧ (lo ≠ 0 ∨ m2 ≠ 0) := by
  rcases Nat.lt_trichotomy tp d with h3 | rfl | h3
  · have h4 : (tp + 1) * (M * M) ≤ d * (M * M) := Nat.mul_le_mul_right _ h3
    have h5 : (m2 + 1) * M ≤ M * M := Nat.mul_le_mul_right _ h1
    rw [Nat.add_mul] at h4 h5
    omega
  · refine Or.inr ⟨rfl, ?_⟩
    rcases Nat.eq_zero_or_pos m2 with h3 | h3
    · subst h3; left; intro h4; subst h4; omega
    · right; omega
  · exact Or.inl h3
theorem word2 {x y z : Nat} (hy : x % 18446744073709551616 = y) (hz : x / 18446744073709551616 = z) (h : x < 18446744073709551616 + 18446744073709551616) : x = 18446744073709551616 * z + y ∧ y < 18446744073709551616 ∧ z ≤ 1 := by omega
set_option maxHeartbeats 1000000 in
theorem C_ShaRoots (w : World) (n : Int) (wn : (Lit.int .u32 n).wf = true) :
    CallsR Try.prog 4 [.int .u32 n] w fun v w' => v = .bool true ∧ Below w.heap.size w w' := by
  obtain ⟨N, rfl, hN⟩ : ∃ N : Nat, n = N ∧ N < 4294967296 := by
    have h := bounds_u32 wn
    exact ⟨n.toNat, by omega, by omega⟩
  refine callsR Try.func4 rfl rfl (by kernel_rfl) rfl ?_
  have hw := Below.refl w.heap.size w
  refine rk_seq ?_
  refine rk_region ?_
  refine wl_p (fun _ => o_assign rfl) ?_
  refine wl_nil ?_
  refine rk_seq ?_
  refine rk_seq ?_
  refine rk_region ?_
  refine wl_call rfl (C_lives02 _) ?_
  rintro v20 w20 ⟨rfl, b20⟩
  have s20 := b20.size
  replace hw := hw.trans (b20.mono hw.size)
  refine wl_p (fun _ => o_not rfl) ?_
  refine wl_nil ?_
  refine rk_false rfl ?_
  refine rk_skip ?_
  refine rk_seq ?_
  refine rk_region ?_
  refine wl_p (fun _ => o_assign rfl) ?_
  refine wl_nil ?_
  refine rk_seq ?_
  refine rk_block ?_
  refine rk_joinf (fun fb fr w2 => ∃ (s : Nat) (v : Int), fr = [(3, .int .u64 v)] ++ fb.drop 1 ∧ v = (s : Int) ∧ s * s ≤ N ∧ N < (s + 1) * (s + 1) ∧ Below w.heap.size w w2) ?_ (fun ks hj => ?_)
  rotate_left
  · refine rk_loopf (fun fb m fr w2 => ∃ (s : Nat) (v : Int), fr = [(3, .int .u64 v)] ++ fb.drop 1 ∧ v = (s : Int) ∧ s * s ≤ N ∧ s ≤ 65535 ∧ m = 65536 - s ∧ Below w.heap.size w w2) (n := 65536) (Fr.le_of (by kernel_rfl) (by kernel_rfl) (by repeat' constructor)) ⟨0, 0, rfl, by omega, by omega, by omega, by omega, hw⟩ ?_
    clear hw
    rintro m fr w2 ⟨s, _, rfl, rfl, hs, hs2, rfl, hw⟩
    have hc1 : (((s + 1) * (s + 1) : Nat) : Int) = ((s : Int) + 1) * ((s : Int) + 1) := by rw [Int.natCast_mul, Int.natCast_add]; rfl
    have hsq := Nat.mul_le_mul (show s + 1 ≤ 65536 by omega) (show s + 1 ≤ 65536 by omega)
    first | refine rk_frame (by simp only [List.cons_append, List.nil_append, List.drop_succ_cons, List.drop_zero]; rfl) ?_ | refine wl_frame (by simp only [List.cons_append, List.nil_append, List.drop_succ_cons, List.drop_zero]; rfl) ?_
    refine rk_seq ?_
    refine rk_seq ?_
    refine rk_region ?_
    refine wl_p (fun _ => o_move rfl) ?_
    refine wl_p (fun _ => o_lt rfl rfl) ?_
    generalize hdv : decide ((s : Int) < 65535) = dv
    refine wl_p (fun _ => o_move rfl) ?_
    refine wl_bool 24 rfl (fun h24 => ?_) (fun h24 => ?_) <;> try simp only [decide_eq_true_eq, decide_eq_false_iff_not, Bool.not_eq_true', Bool.not_eq_false', Bool.and_eq_true, Bool.and_eq_false_iff, Bool.or_eq_true, Bool.or_eq_false_iff] at h24
    · have hs3 : s < 65535 := by
        have := of_decide_eq_true (hdv.trans h24)
        omega
      refine wl_p (fun _ => o_move rfl) ?_
      refine wl_p (fun _ => o_addq rfl rfl (by omega) (by omega)) ?_
      refine wl_p (fun _ => o_move rfl) ?_
      refine wl_p (fun _ => o_addq rfl rfl (by omega) (by omega)) ?_
      refine wl_p (fun _ => o_mulq rfl rfl (by omega) (by omega)) ?_
      refine wl_p (fun _ => o_move rfl) ?_
      refine wl_p (fun _ => o_convu64 (src := 22) (dst := 25) Try.underlying22 Try.underlying25 rfl (by omega) (by omega)) ?_
      refine wl_p (fun _ => o_le rfl rfl) ?_
      refine wl_p (fun _ => o_pick_t rfl rfl) ?_
      refine wl_nil ?_
      refine rk_if rfl (fun h33 => ?_) (fun h33 => ?_)
      · refine rk_skip ?_
        refine rk_block ?_
        refine rk_seq ?_
        refine rk_region ?_
        refine wl_p (fun _ => o_assign rfl) ?_
        refine wl_nil ?_
        refine rk_seq ?_
        refine rk_block ?_
        refine rk_joinf (fun fb fr w3 => ∃ (st : Nat) (v : Int), fr = [(4, .int .u64 v)] ++ fb.drop 1 ∧ v = (st : Int) ∧ 1 ≤ st ∧ (s + st) * (s + st) ≤ N ∧ Below w.heap.size w w3) ?_ (fun ks2 hj2 => ?_)
        rotate_left
        · refine rk_loopf (fun fb m fr w3 => ∃ (st : Nat) (v : Int), fr = [(4, .int .u64 v)] ++ fb.drop 1 ∧ v = (st : Int) ∧ 1 ≤ st ∧ (s + st) * (s + st) ≤ N ∧ m = 65536 - st ∧ Below w.heap.size w w3) (n := 65535) (Fr.le_of (by kernel_rfl) (by kernel_rfl) (by repeat' constructor)) ⟨1, 1, rfl, by omega, by omega, by omega, by omega, hw⟩ ?_
          clear hw
          rintro m fr w3 ⟨st, _, rfl, rfl, hst1, hst2, rfl, hw⟩
          have hst : s + st ≤ 65535 := by
            rcases Nat.lt_or_ge (s + st) 65536 with h | h
            · omega
            · have := Nat.mul_le_mul h h; omega
          have hc2 : (((s + 2 * st) * (s + 2 * st) : Nat) : Int) = ((s : Int) + 2 * (st : Int)) * ((s : Int) + 2 * (st : Int)) := by rw [Int.natCast_mul, Int.natCast_add, Int.natCast_mul]; rfl
          have hsq2 := Nat.mul_le_mul (show s + 2 * st ≤ 131072 by omega) (show s + 2 * st ≤ 131072 by omega)
          first | refine rk_frame (by simp only [List.cons_append, List.nil_append, List.drop_succ_cons, List.drop_zero]; rfl) ?_ | refine wl_frame (by simp only [List.cons_append, List.nil_append, List.drop_succ_cons, List.drop_zero]; rfl) ?_
          refine rk_seq ?_
          refine rk_seq ?_
          refine rk_region ?_
          refine wl_p (fun _ => o_move rfl) ?_
          refine wl_p (fun _ => o_move rfl) ?_
          refine wl_p (fun _ => o_mulq rfl rfl (by omega) (by omega)) ?_
          refine wl_p (fun _ => o_addq rfl rfl (by omega) (by omega)) ?_
          refine wl_p (fun _ => o_move rfl) ?_
          refine wl_p (fun _ => o_move rfl) ?_
          refine wl_p (fun _ => o_mulq rfl rfl (by omega) (by omega)) ?_
          refine wl_p (fun _ => o_addq rfl rfl (by omega) (by omega)) ?_
          refine wl_p (fun _ => o_mulq rfl rfl (by omega) (by omega)) ?_
          refine wl_p (fun _ => o_move rfl) ?_
          refine wl_p (fun _ => o_convu64 (src := 22) (dst := 25) Try.underlying22 Try.underlying25 rfl (by omega) (by omega)) ?_
          refine wl_p (fun _ => o_le rfl rfl) ?_
          refine wl_nil ?_
          refine rk_if rfl (fun h45 => ?_) (fun h45 => ?_)
          · have h2 : (s + 2 * st) * (s + 2 * st) ≤ N := by omega
            refine rk_skip ?_
            refine rk_block ?_
            refine rk_region ?_
            refine wl_p (fun _ => o_move rfl) ?_
            refine wl_p (fun _ => o_mulq rfl rfl (by omega) (by omega)) ?_
            refine wl_p (fun _ => o_assign rfl) ?_
            refine wl_nil ?_
            refine rk_blk ?_
            exact rk_againf (Fr.le_of (by kernel_rfl) (by kernel_rfl) (by repeat' constructor)) ⟨2 * st, _, rfl, by omega, by omega, h2, rfl, hw⟩ (by omega)
          · refine rk_exit rfl ?_
            exact rk_tof hj2 (Fr.le_of (by kernel_rfl) (by kernel_rfl) (by repeat' constructor)) ⟨st, _, rfl, rfl, hst1, hst2, hw⟩
        clear hw
        rintro fr w3 ⟨st, _, rfl, rfl, hst1, hst2, hw⟩
        have hst : s + st ≤ 65535 := by
          rcases Nat.lt_or_ge (s + st) 65536 with h | h
          · omega
          · have := Nat.mul_le_mul h h; omega
        first | refine rk_frame (by simp only [List.cons_append, List.nil_append, List.drop_succ_cons, List.drop_zero]; rfl) ?_ | refine wl_frame (by simp only [List.cons_append, List.nil_append, List.drop_succ_cons, List.drop_zero]; rfl) ?_
        refine rk_region ?_
        refine wl_p (fun _ => o_move rfl) ?_
        refine wl_p (fun _ => o_move rfl) ?_
        refine wl_p (fun _ => o_addq rfl rfl (by omega) (by omega)) ?_
        refine wl_p (fun _ => o_assign rfl) ?_
        refine wl_nil ?_
        refine rk_blk ?_
        exact rk_againf (Fr.le_of (by kernel_rfl) (by kernel_rfl) (by repeat' constructor)) ⟨s + st, _, rfl, by omega, hst2, by omega, rfl, hw⟩ (by omega)
      · refine rk_exit rfl ?_
        exact rk_tof hj (Fr.le_of (by kernel_rfl) (by kernel_rfl) (by repeat' constructor)) ⟨s, _, rfl, rfl, hs, by omega, hw⟩
    · refine wl_off ?_
      refine wl_off ?_
      refine wl_off ?_
      refine wl_off ?_
      refine wl_off ?_
      refine wl_off ?_
      refine wl_off ?_
      refine wl_off ?_
      refine wl_p (fun _ => o_pick_f rfl rfl) ?_
      refine wl_nil ?_
      refine rk_false rfl ?_
      refine rk_exit rfl ?_
      have hs3 : ¬ ((s : Int) < 65535) := of_decide_eq_false (hdv.trans h24)
      obtain rfl : s = 65535 := by omega
      exact rk_tof hj (Fr.le_of (by kernel_rfl) (by kernel_rfl) (by repeat' constructor)) ⟨65535, _, rfl, rfl, hs, by omega, hw⟩
  clear hw
  rintro fr w2 ⟨s, _, rfl, rfl, hs1, hs2, hw⟩
  obtain ⟨r, hr⟩ : ∃ r, root N 2 % 18446744073709551616 = r := ⟨_, rfl⟩
  obtain ⟨g1, g2⟩ := roots_law hN hs1 hs2 hr
  have hr' : root (N % 4294967296) 2 % 18446744073709551616 = r := by rw [Nat.mod_eq_of_lt hN]; exact hr
  obtain ⟨q, hq⟩ : ∃ q, 2 * s * r = q := ⟨_, rfl⟩
  obtain ⟨c, hc⟩ : ∃ c, r * r = c := ⟨_, rfl⟩
  rw [hq, hc] at g1 g2
  have hsl : s ≤ 65535 := by
    rcases Nat.lt_or_ge s 65536 with h | h
    · omega
    · have := Nat.mul_le_mul h h; omega
  have hrl : r < 18446744073709551616 := by omega
  have hql : q / 18446744073709551616 < 131072 := by
    have h1 : 2 * s * r ≤ 131070 * (18446744073709551616 - 1) := Nat.mul_le_mul (by omega) (by omega)
    omega
  have hcl : c / 18446744073709551616 < 18446744073709551616 := by
    have h1 : r * r ≤ (18446744073709551616 - 1) * (18446744073709551616 - 1) := Nat.mul_le_mul (by omega) (by omega)
    rw [hc] at h1; clear hq hr hr' g1 g2; omega
  have hc3 : ((s * s : Nat) : Int) = (s : Int) * (s : Int) := Int.natCast_mul s s
  first | refine rk_frame (by simp only [List.cons_append, List.nil_append, List.drop_succ_cons, List.drop_zero]; rfl) ?_ | refine wl_frame (by simp only [List.cons_append, List.nil_append, List.drop_succ_cons, List.drop_zero]; rfl) ?_
  refine rk_seq ?_
  refine rk_region ?_
  refine wl_p (fun _ => o_move rfl) ?_
  refine wl_p (fun _ => o_convu64 (src := 22) (dst := 25) Try.underlying22 Try.underlying25 rfl (by omega) (by omega)) ?_
  refine wl_call rfl (C_Root _ (by omega)) ?_
  rintro v53 w53 ⟨rfl, b53⟩
  have s53 := b53.size
  replace hw := hw.trans (b53.mono hw.size)
  refine wl_p (fun _ => o_assign rfl) ?_
  refine wl_nil ?_
  refine rk_seq ?_
  refine rk_region ?_
  refine wl_p (fun _ => o_move rfl) ?_
  refine wl_p (fun _ => o_convu64 (src := 22) (dst := 25) Try.underlying22 Try.underlying25 rfl (by omega) (by omega)) ?_
  refine wl_p (fun _ => o_move rfl) ?_
  refine wl_p (fun _ => o_move rfl) ?_
  refine wl_p (fun _ => o_mulq rfl rfl (by omega) (by omega)) ?_
  refine wl_p (fun _ => o_subq rfl rfl (by omega) (by omega)) ?_
  refine wl_p (fun _ => o_assign rfl) ?_
  refine wl_nil ?_
  refine rk_seq ?_
  refine rk_region ?_
  refine wl_p (fun _ => o_move rfl) ?_
  refine wl_p (fun _ => o_move rfl) ?_
  refine wl_call rfl (C_Mul64 _ (by omega) (by omega)) ?_
  rintro v63 w63 ⟨rfl, rfl⟩
  refine wl_p (fun _ => o_move rfl) ?_
  refine wl_p (fun _ => o_ext20 rfl) ?_
  refine wl_p (fun _ => o_ext21 rfl) ?_
  refine wl_p (fun _ => o_assign rfl) ?_
  refine wl_p (fun _ => o_assign rfl) ?_
  refine wl_nil ?_
  refine rk_seq ?_
  refine rk_region ?_
  refine wl_p (fun _ => o_move rfl) ?_
  refine wl_p (fun _ => o_mulq rfl rfl (by omega) (by omega)) ?_
  refine wl_p (fun _ => o_move rfl) ?_
  refine wl_call rfl (C_Mul64 _ (by simp; omega) (by omega)) ?_
  rintro v70 w70 ⟨rfl, rfl⟩
  refine wl_p (fun _ => o_move rfl) ?_
  refine wl_p (fun _ => o_ext20 rfl) ?_
  refine wl_p (fun _ => o_ext21 rfl) ?_
  refine wl_p (fun _ => o_assign rfl) ?_
  refine wl_p (fun _ => o_assign rfl) ?_
  refine wl_nil ?_
  refine rk_seq ?_
  refine rk_region ?_
  refine wl_p (fun _ => o_move rfl) ?_
  refine wl_p (fun _ => o_move rfl) ?_
  rw [hr', hq, hc]
  obtain ⟨tp, htp⟩ : ∃ tp, q / 18446744073709551616 = tp := ⟨_, rfl⟩
  obtain ⟨mi, hmi⟩ : ∃ mi, q % 18446744073709551616 = mi := ⟨_, rfl⟩
  obtain ⟨hi, hhi⟩ : ∃ hi, c / 18446744073709551616 = hi := ⟨_, rfl⟩
  obtain ⟨lo, hlo⟩ : ∃ lo, c % 18446744073709551616 = lo := ⟨_, rfl⟩
  have z1 : q = 18446744073709551616 * tp + mi := by omega
  have z2 : c = 18446744073709551616 * hi + lo := by omega
  have z3 : mi < 18446744073709551616 := by omega
  have z4 : lo < 18446744073709551616 := by omega
  rw [htp, hmi, hhi, hlo]
  rw [htp] at hql
  rw [hhi] at hcl
  refine wl_p (fun _ => o_add64 (a := mi) (b := hi) (c := 0) rfl rfl rfl (by omega)) ?_
  obtain ⟨m2, hm2⟩ : ∃ m2, (mi + hi + 0) % 18446744073709551616 = m2 := ⟨_, rfl⟩
  obtain ⟨ca, hca⟩ : ∃ ca, (mi + hi + 0) / 18446744073709551616 = ca := ⟨_, rfl⟩
  have z5 : mi + hi = 18446744073709551616 * ca + m2 := by omega
  have z6 : m2 < 18446744073709551616 := by omega
  have z7 : ca ≤ 1 := by omega
  rw [hm2, hca]
  obtain ⟨D, hD⟩ : ∃ D, N - s * s = D := ⟨_, rfl⟩
  have hD2 : (N : Int) - (s : Int) * (s : Int) = (D : Int) := by omega
  rw [hD2]
  rw [hD] at g1 g2
  have k1 := words_low z1 z2 z5
  have k2 := words_le k1 g1 (by decide)
  clear htp hmi hhi hlo hm2 hca hq hc hr hr'
  refine wl_p (fun _ => o_move rfl) ?_
  refine wl_p (fun _ => o_ext20 rfl) ?_
  refine wl_p (fun _ => o_ext21 rfl) ?_
  refine wl_p (fun _ => o_assign rfl) ?_
  refine wl_p (fun _ => o_assign rfl) ?_
  refine wl_nil ?_
  refine rk_seq ?_
  refine rk_region ?_
  refine wl_p (fun _ => o_move rfl) ?_
  refine wl_p (fun _ => o_move rfl) ?_
  refine wl_p (fun _ => o_addq rfl rfl (by omega) (by omega)) ?_
  refine wl_p (fun _ => o_assign rfl) ?_
  refine wl_nil ?_
  refine rk_seq ?_
  refine rk_seq ?_
  refine rk_region ?_
  refine wl_p (fun _ => o_move rfl) ?_
  refine wl_p (fun _ => o_move rfl) ?_
  refine wl_p (fun _ => o_gt rfl rfl) ?_
  refine wl_p (fun _ => o_move rfl) ?_
  refine wl_know 85 false rfl (decide_eq_false (by omega)) ?_
  refine wl_p (fun _ => o_move rfl) ?_
  refine wl_p (fun _ => o_move rfl) ?_
  refine wl_p (fun _ => o_eq rfl rfl) ?_
  refine wl_p (fun _ => o_move rfl) ?_
  refine wl_joinf 8 (fun fb fr w' => fr = [(97, .bool false)] ++ fb.drop 1 ∧ Below w.heap.size w w') ?_ (fun hj => ?_)
  rotate_left
  · refine wl_bool 89 rfl (fun h89 => ?_) (fun h89 => ?_) <;> try simp only [decide_eq_true_eq, decide_eq_false_iff_not, Bool.not_eq_true', Bool.not_eq_false', Bool.and_eq_true, Bool.and_eq_false_iff, Bool.or_eq_true, Bool.or_eq_false_iff] at h89
    · refine wl_p (fun _ => o_move rfl) ?_
      refine wl_p (fun _ => o_ne rfl rfl) ?_
      refine wl_p (fun _ => o_move rfl) ?_
      refine wl_know 92 false rfl (decide_eq_false (by omega)) ?_
      refine wl_p (fun _ => o_move rfl) ?_
      refine wl_p (fun _ => o_ne rfl rfl) ?_
      refine wl_p (fun _ => o_pick_f rfl rfl) ?_
      refine wl_p (fun _ => o_pick_t rfl rfl) ?_
      refine wl_p (fun _ => o_pick_f rfl rfl) ?_
      have e9 : decide ((lo : Int) ≠ 0) = false := decide_eq_false (by omega)
      rw [e9]
      exact wl_tof hj (Fr.le_of (by kernel_rfl) (by kernel_rfl) (by repeat' constructor)) ⟨rfl, hw⟩
    · refine wl_off ?_
      refine wl_off ?_
      refine wl_off ?_
      refine wl_off ?_
      refine wl_off ?_
      refine wl_off ?_
      refine wl_p (fun _ => o_pick_f rfl rfl) ?_
      refine wl_p (fun _ => o_pick_f rfl rfl) ?_
      exact wl_tof hj (Fr.le_of (by kernel_rfl) (by kernel_rfl) (by repeat' constructor)) ⟨rfl, hw⟩
  clear hw
  rintro fr w' ⟨rfl, hw⟩
  first | refine rk_frame (by simp only [List.cons_append, List.nil_append, List.drop_succ_cons, List.drop_zero]; rfl) ?_ | refine wl_frame (by simp only [List.cons_append, List.nil_append, List.drop_succ_cons, List.drop_zero]; rfl) ?_
  refine rk_false rfl ?_
  refine rk_skip ?_
  refine rk_seq ?_
  refine rk_region ?_
  refine wl_p (fun _ => o_move rfl) ?_
  refine wl_p (fun _ => o_move rfl) ?_
  refine wl_p (fun _ => o_mulw rfl rfl) ?_
  have K : Unit → _ := fun _ => And.intro k1 g2
  clear k1 k2 g1 g2 z1 z2 z5
  obtain ⟨ov, hov⟩ : ∃ ov, 2 * r / 18446744073709551616 = ov := ⟨_, rfl⟩
  obtain ⟨ra, hra⟩ : ∃ ra, 2 * r % 18446744073709551616 = ra := ⟨_, rfl⟩
  obtain ⟨y1, y2, y3⟩ := word2 hra hov (by omega)
  have y4 : IntKind.u64.wrap (2 * (r : Int)) = (ra : Int) := by rw [IntKind.wrap_u64]; omega
  rw [y4]
  refine wl_p (fun _ => o_add64 (a := lo) (b := ra) (c := 0) rfl rfl rfl (by omega)) ?_
  obtain ⟨x1, hx1⟩ : ∃ x1, (lo + ra + 0) % 18446744073709551616 = x1 := ⟨_, rfl⟩
  obtain ⟨c1, hc1⟩ : ∃ c1, (lo + ra + 0) / 18446744073709551616 = c1 := ⟨_, rfl⟩
  obtain ⟨y5, y6, y7⟩ := word2 hx1 hc1 (by omega)
  rw [hx1, hc1]
  refine wl_p (fun _ => o_move rfl) ?_
  refine wl_p (fun _ => o_ext20 rfl) ?_
  refine wl_p (fun _ => o_ext21 rfl) ?_
  refine wl_p (fun _ => o_assign rfl) ?_
  refine wl_p (fun _ => o_assign rfl) ?_
  refine wl_nil ?_
  refine rk_seq ?_
  refine rk_region ?_
  refine wl_p (fun _ => o_move rfl) ?_
  refine wl_p (fun _ => o_shr rfl rfl (by omega)) ?_
  refine wl_p (fun _ => o_assign rfl) ?_
  refine wl_nil ?_
  refine rk_seq ?_
  refine rk_region ?_
  refine wl_p (fun _ => o_move rfl) ?_
  have y8 : (r : Int) / 2 ^ min (Int.toNat 63) IntKind.u64.bits = (ov : Int) := by
    show (r : Int) / 9223372036854775808 = _
    omega
  rw [y8]
  refine wl_p (fun _ => o_add64 (a := x1) (b := 1) (c := 0) rfl rfl rfl (by omega)) ?_
  obtain ⟨x2, hx2⟩ : ∃ x2, (x1 + 1 + 0) % 18446744073709551616 = x2 := ⟨_, rfl⟩
  obtain ⟨e, he⟩ : ∃ e, (x1 + 1 + 0) / 18446744073709551616 = e := ⟨_, rfl⟩
  obtain ⟨y9, y10, y11⟩ := word2 hx2 he (by omega)
  rw [hx2, he]
  clear hx1 hc1 hx2 he hov hra y4 y8
  refine wl_p (fun _ => o_move rfl) ?_
  refine wl_p (fun _ => o_ext20 rfl) ?_
  refine wl_p (fun _ => o_ext21 rfl) ?_
  refine wl_p (fun _ => o_assign rfl) ?_
  refine wl_p (fun _ => o_assign rfl) ?_
  refine wl_nil ?_
  refine rk_seq ?_
  refine rk_region ?_
  refine wl_p (fun _ => o_move rfl) ?_
  refine wl_p (fun _ => o_move rfl) ?_
  refine wl_p (fun _ => o_mulq rfl rfl (by omega) (by omega)) ?_
  refine wl_p (fun _ => o_move rfl) ?_
  have y12 : 2 * (s : Int) = ((2 * s : Nat) : Int) := by omega
  rw [y12]
  refine wl_p (fun _ => o_add64 (a := m2) (b := 2 * s) (c := c1) rfl rfl rfl y7) ?_
  obtain ⟨u1, hu1⟩ : ∃ u1, (m2 + 2 * s + c1) % 18446744073709551616 = u1 := ⟨_, rfl⟩
  obtain ⟨f, hf⟩ : ∃ f, (m2 + 2 * s + c1) / 18446744073709551616 = f := ⟨_, rfl⟩
  obtain ⟨v1, v2, v3⟩ := word2 hu1 hf (by clear y1 y5 y9; omega)
  rw [hu1, hf]
  clear hu1 hf
  refine wl_p (fun _ => o_move rfl) ?_
  refine wl_p (fun _ => o_ext20 rfl) ?_
  refine wl_p (fun _ => o_ext21 rfl) ?_
  refine wl_p (fun _ => o_assign rfl) ?_
  refine wl_p (fun _ => o_assign rfl) ?_
  refine wl_nil ?_
  refine rk_seq ?_
  refine rk_region ?_
  refine wl_p (fun _ => o_move rfl) ?_
  refine wl_p (fun _ => o_move rfl) ?_
  refine wl_p (fun _ => o_move rfl) ?_
  refine wl_p (fun _ => o_addq rfl rfl (by omega) (by omega)) ?_
  have y13 : (ov : Int) + (e : Int) = ((ov + e : Nat) : Int) := by omega
  rw [y13]
  refine wl_p (fun _ => o_add64 (a := u1) (b := ov + e) (c := 0) rfl rfl rfl (by omega)) ?_
  obtain ⟨u2, hu2⟩ : ∃ u2, (u1 + (ov + e) + 0) % 18446744073709551616 = u2 := ⟨_, rfl⟩
  obtain ⟨g, hg⟩ : ∃ g, (u1 + (ov + e) + 0) / 18446744073709551616 = g := ⟨_, rfl⟩
  obtain ⟨v4, v5, v6⟩ := word2 hu2 hg (by clear y1 y5 y9 v1; omega)
  rw [hu2, hg]
  obtain ⟨k1, g2⟩ := K ()
  have k3 : D < tp + ca + f + g ∨ tp + ca + f + g = D ∧ (x2 ≠ 0 ∨ u2 ≠ 0) := words_gt (words_high k1 y1 y5 y9 v1 v4 rfl) g2 v5 y10
  clear K k1 g2 hu2 hg y1 y5 y9 v1 v4 y12 y13
  rcases k3 with k3 | ⟨k3, k4⟩
  · refine wl_p (fun _ => o_move rfl) ?_
    refine wl_p (fun _ => o_ext20 rfl) ?_
    refine wl_p (fun _ => o_ext21 rfl) ?_
    refine wl_p (fun _ => o_assign rfl) ?_
    refine wl_p (fun _ => o_assign rfl) ?_
    refine wl_nil ?_
    refine rk_seq ?_
    refine rk_region ?_
    refine wl_p (fun _ => o_move rfl) ?_
    refine wl_p (fun _ => o_move rfl) ?_
    refine wl_p (fun _ => o_addq rfl rfl (by omega) (by omega)) ?_
    refine wl_p (fun _ => o_move rfl) ?_
    refine wl_p (fun _ => o_addq rfl rfl (by omega) (by omega)) ?_
    refine wl_p (fun _ => o_assign rfl) ?_
    refine wl_nil ?_
    refine rk_seq ?_
    refine rk_region ?_
    refine wl_p (fun _ => o_move rfl) ?_
    refine wl_p (fun _ => o_move rfl) ?_
    refine wl_p (fun _ => o_gt rfl rfl) ?_
    refine wl_p (fun _ => o_move rfl) ?_
    refine wl_know 136 true rfl (decide_eq_true (by omega)) ?_
    refine wl_off ?_
    refine wl_off ?_
    refine wl_off ?_
    refine wl_off ?_
    refine wl_off ?_
    refine wl_off ?_
    refine wl_off ?_
    refine wl_off ?_
    refine wl_off ?_
    refine wl_off ?_
    refine wl_off ?_
    refine wl_p (fun _ => o_pick_t rfl rfl) ?_
    refine wl_p (fun _ => o_assign rfl) ?_
    refine wl_nil ?_
    refine ret1 rfl rfl ?_
    exact ⟨rfl, hw⟩
  · have k5 : ¬ (D < tp + ca + f + g) := by omega
    rcases Nat.eq_zero_or_pos x2 with k6 | k6
    · have k7 : u2 ≠ 0 := by omega
      refine wl_p (fun _ => o_move rfl) ?_
      refine wl_p (fun _ => o_ext20 rfl) ?_
      refine wl_p (fun _ => o_ext21 rfl) ?_
      refine wl_p (fun _ => o_assign rfl) ?_
      refine wl_p (fun _ => o_assign rfl) ?_
      refine wl_nil ?_
      refine rk_seq ?_
      refine rk_region ?_
      refine wl_p (fun _ => o_move rfl) ?_
      refine wl_p (fun _ => o_move rfl) ?_
      refine wl_p (fun _ => o_addq rfl rfl (by omega) (by omega)) ?_
      refine wl_p (fun _ => o_move rfl) ?_
      refine wl_p (fun _ => o_addq rfl rfl (by omega) (by omega)) ?_
      refine wl_p (fun _ => o_assign rfl) ?_
      refine wl_nil ?_
      refine rk_seq ?_
      refine rk_region ?_
      refine wl_p (fun _ => o_move rfl) ?_
      refine wl_p (fun _ => o_move rfl) ?_
      refine wl_p (fun _ => o_gt rfl rfl) ?_
      refine wl_p (fun _ => o_move rfl) ?_
      refine wl_know 136 false rfl (decide_eq_false (by omega)) ?_
      refine wl_p (fun _ => o_move rfl) ?_
      refine wl_p (fun _ => o_move rfl) ?_
      refine wl_p (fun _ => o_eq rfl rfl) ?_
      refine wl_p (fun _ => o_move rfl) ?_
      refine wl_know 140 true rfl (decide_eq_true (by omega)) ?_
      refine wl_p (fun _ => o_move rfl) ?_
      refine wl_p (fun _ => o_ne rfl rfl) ?_
      refine wl_p (fun _ => o_move rfl) ?_
      refine wl_know 143 false rfl (decide_eq_false (by omega)) ?_
      refine wl_p (fun _ => o_move rfl) ?_
      refine wl_p (fun _ => o_ne rfl rfl) ?_
      refine wl_p (fun _ => o_pick_f rfl rfl) ?_
      refine wl_p (fun _ => o_pick_t rfl rfl) ?_
      refine wl_p (fun _ => o_pick_f rfl rfl) ?_
      refine wl_p (fun _ => o_assign rfl) ?_
      refine wl_nil ?_
      refine ret1 rfl rfl ?_
      exact ⟨congrArg Value.bool (decide_eq_true (by omega)), hw⟩
    · refine wl_p (fun _ => o_move rfl) ?_
      refine wl_p (fun _ => o_ext20 rfl) ?_
      refine wl_p (fun _ => o_ext21 rfl) ?_
      refine wl_p (fun _ => o_assign rfl) ?_
      refine wl_p (fun _ => o_assign rfl) ?_
      refine wl_nil ?_
      refine rk_seq ?_
      refine rk_region ?_
      refine wl_p (fun _ => o_move rfl) ?_
      refine wl_p (fun _ => o_move rfl) ?_
      refine wl_p (fun _ => o_addq rfl rfl (by omega) (by omega)) ?_
      refine wl_p (fun _ => o_move rfl) ?_
      refine wl_p (fun _ => o_addq rfl rfl (by omega) (by omega)) ?_
      refine wl_p (fun _ => o_assign rfl) ?_
      refine wl_nil ?_
      refine rk_seq ?_
      refine rk_region ?_
      refine wl_p (fun _ => o_move rfl) ?_
      refine wl_p (fun _ => o_move rfl) ?_
      refine wl_p (fun _ => o_gt rfl rfl) ?_
      refine wl_p (fun _ => o_move rfl) ?_
      refine wl_know 136 false rfl (decide_eq_false (by omega)) ?_
      refine wl_p (fun _ => o_move rfl) ?_
      refine wl_p (fun _ => o_move rfl) ?_
      refine wl_p (fun _ => o_eq rfl rfl) ?_
      refine wl_p (fun _ => o_move rfl) ?_
      refine wl_know 140 true rfl (decide_eq_true (by omega)) ?_
      refine wl_p (fun _ => o_move rfl) ?_
      refine wl_p (fun _ => o_ne rfl rfl) ?_
      refine wl_p (fun _ => o_move rfl) ?_
      refine wl_know 143 true rfl (decide_eq_true (by omega)) ?_
      refine wl_off ?_
      refine wl_off ?_
      refine wl_p (fun _ => o_pick_t rfl rfl) ?_
      refine wl_p (fun _ => o_pick_t rfl rfl) ?_
      refine wl_p (fun _ => o_pick_f rfl rfl) ?_
      refine wl_p (fun _ => o_assign rfl) ?_
      refine wl_nil ?_
      refine ret1 rfl rfl ?_
      exact ⟨rfl, hw⟩
end Go.Proofs.Ytldhmnakkkjenaa
