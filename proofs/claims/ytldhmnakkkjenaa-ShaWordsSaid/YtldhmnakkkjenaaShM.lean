/-
  The statement ShaWords: the words are roots of primes.
-/
import Derived.Test.YtldhmnakkkjenaaShL
import Derived.Test.YtldhmnakkkjenaaPick
namespace Go.Proofs.Ytldhmnakkkjenaa
open Go.RowKit
/-! Primes up to 409, by trial. -/
def restP : Nat → Nat → Nat → Bool
  | 0, _, _ => true
  | f + 1, p, d => if d * d ≤ p then decide (p % d ≠ 0) && restP f p (d + 1) else true
def isP (p : Nat) : Bool := restP 30 p 2
def cntP : Nat → Nat
  | 0 => 0
  | p + 1 => if 2 < p + 1 ∧ isP (p + 1) = true then cntP p + 1 else cntP p
theorem cntP_yes {p q : Nat} (e : p + 1 = q) (h : 2 ≤ p) (hi : isP q = true) : cntP q = cntP p + 1 := by
  subst e; show ite _ _ _ = _; rw [if_pos ⟨by omega, hi⟩]
theorem cntP_no {p q : Nat} (e : p + 1 = q) (hi : isP q = false) : cntP q = cntP p := by
  subst e; show ite _ _ _ = _; rw [if_neg (fun h => by rw [hi] at h; exact absurd h.2 (by decide))]
theorem cntP_mono {a : Nat} : ∀ b, a ≤ b → cntP a ≤ cntP b
  | 0, h => by rw [Nat.le_zero.1 h]; exact Nat.le_refl _
  | b + 1, h => by
    rcases Nat.eq_or_lt_of_le h with h1 | h1
    · rw [h1]; exact Nat.le_refl _
    · have := cntP_mono b (Nat.le_of_lt_succ h1)
      show _ ≤ ite _ _ _
      split <;> omega
theorem cntP_409 : cntP 409 = 79 := by kernel_rfl
theorem cntP_room {p k : Nat} (hk : k < 80) (h : cntP p < k) : p < 409 := by
  rcases Nat.lt_or_ge p 409 with h1 | h1
  · exact h1
  · have := cntP_mono p h1
    rw [cntP_409] at this
    omega
theorem restP_true {f p d : Nat} (hd : p < d * d) : restP f p d = true := by
  cases f with
  | zero => rfl
  | succ f => unfold restP; rw [if_neg (by omega)]
theorem restP_step {f p d : Nat} (hd : d * d ≤ p) : restP (f + 1) p d = (decide (p % d ≠ 0) && restP f p (d + 1)) := by
  rw [restP, if_pos hd]
def goodP (p c : Nat) : Bool := decide ((Kl.getD c 0).toNat = root p 3 % 18446744073709551616) && (decide (8 ≤ c) || decide ((Sl.getD c 0).toNat = root p 2 % 18446744073709551616))
def chkP : Nat → Nat → Nat → Bool
  | 0, _, _ => true
  | f + 1, p, c => (!isP p || goodP p c) && chkP f (p + 1) (if isP (p + 1) then c + 1 else c)
theorem chkP_spec : ∀ (f p j : Nat), 2 ≤ p → chkP f p (cntP p) = true → j < f → isP (p + j) = true → goodP (p + j) (cntP (p + j)) = true
  | 0, _, _, _, _, h, _ => by omega
  | f + 1, p, j, hp, h, hj, hi => by
    unfold chkP at h
    rw [Bool.and_eq_true] at h
    cases j with
    | zero =>
      have h1 := h.1
      rw [Nat.add_zero] at hi ⊢
      rw [hi] at h1
      exact h1
    | succ j =>
      have e : cntP (p + 1) = if isP (p + 1) then cntP p + 1 else cntP p := by
        show ite _ _ _ = _
        by_cases h2 : isP (p + 1) = true
        · rw [if_pos ⟨by omega, h2⟩, if_pos h2]
        · rw [if_neg (fun h3 => h2 h3.2), if_neg h2]
      have := chkP_spec f (p + 1) j (by omega) (by rw [e]; exact h.2) (by omega) (by rw [show p + 1 + j = p + (j + 1) by omega]; exact hi)
      rwa [show p + 1 + j = p + (j + 1) by omega] at this
theorem chkP_all : chkP 408 2 (cntP 2) = true := by kernel_rfl
theorem goodP_all {p : Nat} (h1 : 2 ≤ p) (h2 : p ≤ 409) (h3 : isP p = true) : (Kl.getD (cntP p) 0).toNat = root p 3 % 18446744073709551616 ∧ (cntP p < 8 → (Sl.getD (cntP p) 0).toNat = root p 2 % 18446744073709551616) := by
  have h := chkP_spec 408 2 (p - 2) (by omega) chkP_all (by omega) (by rw [show 2 + (p - 2) = p by omega]; exact h3)
  rw [show 2 + (p - 2) = p by omega] at h
  unfold goodP at h
  rw [Bool.and_eq_true, Bool.or_eq_true] at h
  refine ⟨of_decide_eq_true h.1, fun h4 => ?_⟩
  rcases h.2 with h5 | h5
  · have := of_decide_eq_true h5; omega
  · exact of_decide_eq_true h5
theorem C_ShaWords (w : World) (at_ : Int) (wat : (Lit.int .i64 at_).wf = true) (n : Int) (wn : (Lit.int .u32 n).wf = true) :
    CallsR Try.prog 3 [.int .i64 at_, .int .u32 n] w fun v w' => v = .bool true ∧ Below w.heap.size w w' := by
  obtain ⟨N, rfl, hN⟩ : ∃ N : Nat, n = N ∧ N < 4294967296 := by
    have h := bounds_u32 wn
    exact ⟨n.toNat, by omega, by omega⟩
  have hpk := pick_range at_ 80 (by decide)
  obtain ⟨k, hk, hk80⟩ : ∃ k : Nat, pick at_ 80 = k ∧ k < 80 := ⟨(pick at_ 80).toNat, by omega, by omega⟩
  refine callsR Try.func3 rfl rfl (by kernel_rfl) rfl ?_
  have hw := Below.refl w.heap.size w
  have w80 : (Lit.int .i64 80).wf = true := by decide
  refine rk_seq ?_
  refine rk_region ?_
  refine wl_p (fun _ => o_assign rfl) ?_
  refine wl_nil ?_
  refine rk_seq ?_
  refine rk_seq ?_
  refine rk_region ?_
  refine wl_call rfl (C_lives02 _) ?_
  rintro v12 w12 ⟨rfl, b12⟩
  have s12 := b12.size
  replace hw := hw.trans (b12.mono hw.size)
  refine wl_p (fun _ => o_not rfl) ?_
  refine wl_nil ?_
  refine rk_false rfl ?_
  refine rk_skip ?_
  refine rk_seq ?_
  refine rk_region ?_
  refine wl_p (fun _ => o_move rfl) ?_
  refine wl_call rfl (C_Pick _ _ (by omega) (by rfl) _) ?_
  rintro v15 w15 ⟨rfl, rfl⟩
  refine wl_p (fun _ => o_assign rfl) ?_
  refine wl_nil ?_
  refine rk_seq ?_
  refine rk_region ?_
  refine wl_p (fun _ => o_assign rfl) ?_
  refine wl_p (fun _ => o_assign rfl) ?_
  refine wl_nil ?_
  refine rk_seq ?_
  refine rk_block ?_
  rw [hk]
  refine rk_joinf (fun fb fr w2 => ∃ (p : Nat) (v1 v2 : Int), fr = [(7, .int .i64 v1), (6, .int .i64 v2)] ++ fb.drop 2 ∧ v1 = k ∧ v2 = p ∧ 2 ≤ p ∧ p ≤ 409 ∧ isP p = true ∧ cntP p = k ∧ Below w.heap.size w w2) ?_ (fun ks hj => ?_)
  rotate_left
  · refine rk_loopf (fun fb m fr w2 => ∃ (p c : Nat) (v1 v2 : Int), fr = [(7, .int .i64 v1), (6, .int .i64 v2)] ++ fb.drop 2 ∧ v1 = c ∧ v2 = p ∧ 2 ≤ p ∧ p ≤ 409 ∧ cntP p = c ∧ c ≤ k ∧ (isP p = true ∨ c < k) ∧ m = 409 - p ∧ Below w.heap.size w w2) (n := 407) (Fr.le_of (by kernel_rfl) (by kernel_rfl) (by repeat' constructor)) ⟨2, 0, _, _, rfl, rfl, rfl, by decide, by decide, by kernel_rfl, by omega, Or.inl (by kernel_rfl), by decide, hw⟩ ?_
    clear hw
    rintro m fr w2 ⟨p, c, _, _, rfl, rfl, rfl, hp2, hp, hc, hck, hor, rfl, hw⟩
    first | refine rk_frame (by simp only [List.cons_append, List.nil_append, List.drop_succ_cons, List.drop_zero]; rfl) ?_ | refine wl_frame (by simp only [List.cons_append, List.nil_append, List.drop_succ_cons, List.drop_zero]; rfl) ?_
    refine rk_seq ?_
    refine rk_seq ?_
    refine rk_region ?_
    refine wl_p (fun _ => o_move rfl) ?_
    refine wl_p (fun _ => o_move rfl) ?_
    refine wl_p (fun _ => o_lt rfl rfl) ?_
    refine wl_nil ?_
    refine rk_if rfl (fun h18 => ?_) (fun h18 => ?_)
    · have hp9 := cntP_room hk80 (show cntP p < k by omega)
      obtain ⟨q, hq⟩ : ∃ q, p + 1 = q := ⟨_, rfl⟩
      refine rk_skip ?_
      refine rk_block ?_
      refine rk_seq ?_
      refine rk_region ?_
      refine wl_p (fun _ => o_move rfl) ?_
      refine wl_p (fun _ => o_add rfl rfl (by omega) (by omega)) ?_
      refine wl_p (fun _ => o_assign rfl) ?_
      refine wl_nil ?_
      refine rk_seq ?_
      refine rk_region ?_
      refine wl_p (fun _ => o_assign rfl) ?_
      refine wl_nil ?_
      refine rk_seq ?_
      refine rk_seq ?_
      refine rk_region ?_
      refine wl_p (fun _ => o_assign rfl) ?_
      refine wl_nil ?_
      refine rk_block ?_
      rw [show (p : Int) + 1 = (q : Int) by omega]
      refine rk_joinf (fun fb fr w3 => fr = [(8, .bool (isP q))] ++ fb.drop 2 ∧ Below w.heap.size w w3) ?_ (fun ks2 hj2 => ?_)
      rotate_left
      · refine rk_loopf (fun fb m fr w3 => ∃ (d f : Nat) (b : Bool) (v : Int), fr = [(9, .int .i64 v), (8, .bool b)] ++ fb.drop 2 ∧ v = d ∧ 2 ≤ d ∧ d ≤ 21 ∧ d + f = 32 ∧ (b && restP f q d) = isP q ∧ m = 30 - d ∧ Below w.heap.size w w3) (n := 28) (Fr.le_of (by kernel_rfl) (by kernel_rfl) (by repeat' constructor)) ⟨2, 30, true, _, rfl, rfl, by decide, by decide, by decide, rfl, by decide, hw⟩ ?_
        clear hw
        rintro m fr w3 ⟨d, f, b, _, rfl, rfl, hd2, hd, hdf, hb, rfl, hw⟩
        have hdd : ((d * d : Nat) : Int) = (d : Int) * (d : Int) := Int.natCast_mul d d
        have hdr := Nat.mul_le_mul hd hd
        first | refine rk_frame (by simp only [List.cons_append, List.nil_append, List.drop_succ_cons, List.drop_zero]; rfl) ?_ | refine wl_frame (by simp only [List.cons_append, List.nil_append, List.drop_succ_cons, List.drop_zero]; rfl) ?_
        refine rk_seq ?_
        refine rk_seq ?_
        refine rk_region ?_
        refine wl_p (fun _ => o_move rfl) ?_
        refine wl_p (fun _ => o_move rfl) ?_
        refine wl_p (fun _ => o_mul rfl rfl (by omega) (by omega)) ?_
        refine wl_p (fun _ => o_move rfl) ?_
        refine wl_p (fun _ => o_le rfl rfl) ?_
        refine wl_nil ?_
        refine rk_if rfl (fun h25 => ?_) (fun h25 => ?_)
        · have hdl : d ≤ 20 := by
            rcases Nat.lt_or_ge d 21 with h | h
            · omega
            · have := Nat.mul_le_mul h h; omega
          obtain ⟨f, rfl⟩ : ∃ e, f = e + 1 := ⟨f - 1, by omega⟩
          rw [restP_step (by omega)] at hb
          cases b
          · refine rk_skip ?_
            refine rk_seq ?_
            refine rk_block ?_
            refine rk_region ?_
            refine wl_p (fun _ => o_move rfl) ?_
            refine wl_p (fun _ => o_move rfl) ?_
            refine wl_off ?_
            refine wl_off ?_
            refine wl_off ?_
            refine wl_off ?_
            refine wl_p (fun _ => o_pick_f rfl rfl) ?_
            refine wl_p (fun _ => o_assign rfl) ?_
            refine wl_nil ?_
            refine rk_blk ?_
            refine rk_region ?_
            refine wl_p (fun _ => o_move rfl) ?_
            refine wl_p (fun _ => o_add rfl rfl (by omega) (by omega)) ?_
            refine wl_p (fun _ => o_assign rfl) ?_
            refine wl_nil ?_
            exact rk_againf (Fr.le_of (by kernel_rfl) (by kernel_rfl) (by repeat' constructor)) ⟨d + 1, f, false, (d : Int) + 1, rfl, by omega, by omega, by omega, by omega, hb, rfl, hw⟩ (by omega)
          · refine rk_skip ?_
            refine rk_seq ?_
            refine rk_block ?_
            refine rk_region ?_
            refine wl_p (fun _ => o_move rfl) ?_
            refine wl_p (fun _ => o_move rfl) ?_
            refine wl_p (fun _ => o_move rfl) ?_
            refine wl_p (fun _ => o_move rfl) ?_
            refine wl_p (fun _ => o_rem rfl rfl (by omega) (by omega)) ?_
            refine wl_p (fun _ => o_ne rfl rfl) ?_
            refine wl_p (fun _ => o_pick_t rfl rfl) ?_
            refine wl_p (fun _ => o_assign rfl) ?_
            refine wl_nil ?_
            refine rk_blk ?_
            refine rk_region ?_
            refine wl_p (fun _ => o_move rfl) ?_
            refine wl_p (fun _ => o_add rfl rfl (by omega) (by omega)) ?_
            refine wl_p (fun _ => o_assign rfl) ?_
            refine wl_nil ?_
            have hqd : ((q % d : Nat) : Int) = (q : Int) % (d : Int) := Int.natCast_emod q d
            exact rk_againf (Fr.le_of (by kernel_rfl) (by kernel_rfl) (by repeat' constructor)) ⟨d + 1, f, decide ((q : Int) % (d : Int) ≠ 0), (d : Int) + 1, rfl, by omega, by omega, by omega, by omega, by
              rw [← hb, Bool.true_and]; congr 1; apply decide_eq_decide.2; rw [← hqd]; omega, rfl, hw⟩ (by omega)
        · refine rk_exit rfl ?_
          rw [restP_true (by omega), Bool.and_true] at hb
          subst hb
          exact rk_tof hj2 (Fr.le_of (by kernel_rfl) (by kernel_rfl) (by repeat' constructor)) ⟨rfl, hw⟩
      clear hw
      rintro fr w3 ⟨rfl, hw⟩
      first | refine rk_frame (by simp only [List.cons_append, List.nil_append, List.drop_succ_cons, List.drop_zero]; rfl) ?_ | refine wl_frame (by simp only [List.cons_append, List.nil_append, List.drop_succ_cons, List.drop_zero]; rfl) ?_
      refine rk_seq ?_
      refine rk_region ?_
      refine wl_p (fun _ => o_move rfl) ?_
      refine wl_nil ?_
      refine rk_cond rfl (fun h35 => ?_) (fun h35 => ?_) <;> try simp only [decide_eq_true_eq, decide_eq_false_iff_not, Bool.not_eq_true', Bool.not_eq_false', Bool.and_eq_true, Bool.and_eq_false_iff, Bool.or_eq_true, Bool.or_eq_false_iff] at h35
      · have hcy := cntP_yes hq hp2 h35
        refine rk_region ?_
        refine wl_p (fun _ => o_move rfl) ?_
        refine wl_p (fun _ => o_add rfl rfl (by omega) (by omega)) ?_
        refine wl_p (fun _ => o_assign rfl) ?_
        refine wl_nil ?_
        refine rk_blk ?_
        exact rk_againf (Fr.le_of (by kernel_rfl) (by kernel_rfl) (by repeat' constructor)) ⟨q, c + 1, _, _, rfl, rfl, rfl, by omega, by omega, by omega, by omega, Or.inl h35, rfl, hw⟩ (by omega)
      · have hcn := cntP_no hq h35
        refine rk_skip ?_
        refine rk_blk ?_
        exact rk_againf (Fr.le_of (by kernel_rfl) (by kernel_rfl) (by repeat' constructor)) ⟨q, c, _, _, rfl, rfl, rfl, by omega, by omega, by omega, by omega, Or.inr (by omega), rfl, hw⟩ (by omega)
    · refine rk_exit rfl ?_
      have hck2 : c = k := by omega
      have hip : isP p = true := by rcases hor with h | h; exact h; omega
      exact rk_tof hj (Fr.le_of (by kernel_rfl) (by kernel_rfl) (by repeat' constructor)) ⟨p, _, _, rfl, by omega, rfl, hp2, hp, hip, by omega, hw⟩
  clear hw
  rintro fr w2 ⟨p, _, _, rfl, rfl, rfl, hp2, hp, hpP, hpk, hw⟩
  obtain ⟨hg1, hg2⟩ := goodP_all hp2 hp hpP
  rw [hpk] at hg1 hg2
  obtain ⟨c3, hc3⟩ : ∃ c3, root (p % 4294967296) 3 % 18446744073709551616 = c3 := ⟨_, rfl⟩
  obtain ⟨c2, hc2⟩ : ∃ c2, root (p % 4294967296) 2 % 18446744073709551616 = c2 := ⟨_, rfl⟩
  have hpm : p % 4294967296 = p := by omega
  have hKl : k < Kl.length := hk80
  obtain ⟨x, hx⟩ : ∃ x, Kl[k] = x := ⟨_, rfl⟩
  have shw := hw.size
  first | refine rk_frame (by simp only [List.cons_append, List.nil_append, List.drop_succ_cons, List.drop_zero]; rfl) ?_ | refine wl_frame (by simp only [List.cons_append, List.nil_append, List.drop_succ_cons, List.drop_zero]; rfl) ?_
  refine rk_seq ?_
  refine rk_region ?_
  refine wl_call rfl (C_K _) ?_
  rintro v38 w38 ⟨rfl, b38⟩
  have s38 := b38.size
  replace hw := hw.trans (b38.mono hw.size)
  refine wl_call rfl (C_Start _) ?_
  rintro v39 w39 ⟨rfl, b39⟩
  have s39 := b39.size
  replace hw := hw.trans (b39.mono hw.size)
  refine wl_alloc80 ?_
  rintro g10 w10 f10 b10 i10 i10_1
  have s10 := b10.size
  replace hw := hw.trans (b10.mono hw.size)
  refine wl_allocU Try.underlying28 Try.zeroValue28 (by rfl) ?_
  rintro g11 w11 f11 b11 i11 i11_1
  have s11 := b11.size
  replace hw := hw.trans (b11.mono hw.size)
  replace f10 := f10.u b11
  refine wl_stUa Try.sizeOf26 rfl f10 rfl (by rfl) (by rfl) ?_
  rintro w_1 f g e
  have s := g.size
  replace hw := hw.trans (below_of_grownBy g.g hw.size (by omega))
  clear f10
  replace f11 := f11.k g.g (ap_some (by omega))
  refine wl_stUa Try.sizeOf28 rfl f11 rfl (by rfl) (by rfl) ?_
  rintro w_2 f_1 g_1 e_1
  have s_1 := g_1.size
  replace hw := hw.trans (below_of_grownBy g_1.g hw.size (by omega))
  clear f11
  replace f := f.k g_1.g (ap_some (by omega))
  refine wl_nil ?_
  refine rk_seq ?_
  refine rk_seq ?_
  refine rk_draw (id := 15) (none) [0, 1, 2, 0, 8, 16, 36, 96, 128, 384, 640, 1024, 3072, 5120, 1024, 17408, 33792, 74752, 132224, 262272] [0, 1, 3, 0, 8, 24, 63, 127, 255, 511, 1023, 2047, 4095, 8191, 2047, 18431, 51199, 131071, 262143, 524287] 65568 65568 [(.p, 0), (.p, 1), (.s, 2), (.p, 3), (.p, 4), (.c, 5), (.p, 6), (.p, 7), (.p, 8), (.p, 9), (.p, 10), (.p, 11), (.p, 12), (.s, 13), (.p, 14), (.p, 15), (.c, 16), (.p, 17), (.p, 18), (.p, 19)] (by kernel_rfl) (by kernel_rfl) (by kernel_rfl) (by kernel_rfl) (by kernel_rfl) ?_
  replace hw := hw.drew
  replace f := f.d
  replace f_1 := f_1.d
  refine wl_p (fun _ => o_move rfl) ?_
  refine wl_p (fun _ => (o_iaddrP (k) Try.underlying26 Try.sizeOf25 rfl rfl rfl (by omega))) ?_
  refine wl_s (fun _ hk => (o_ldU Try.isAgg25 rfl (f.u (below_of_grown_none hk)) (by omega))) ?_
  refine wl_p (fun _ => o_move rfl) ?_
  refine wl_p (fun _ => o_convu64 (src := 3) (dst := 25) Try.underlying3 Try.underlying25 rfl (by omega) (by omega)) ?_
  refine wl_call rfl (C_refCube _ (by omega)) ?_ (hq := .inr fun _ _ h => grown_of_below h.2 _)
  rintro v45 w45 ⟨rfl, b45⟩
  simp only [drew_size] at b45
  have s45 := b45.size
  simp only [drew_size] at s45
  replace hw := hw.trans (b45.mono hw.size)
  replace f_1 := f_1.u b45
  replace f := f.u b45
  refine wl_p (fun _ => o_ne rfl rfl) ?_
  refine wl_p (fun _ => o_move rfl) ?_
  have hv1 : Kl[k].toNat = root (p % 4294967296) 3 % 18446744073709551616 := by
    rw [hpm, ← hg1, List.getD_eq_getElem?_getD, List.getElem?_eq_getElem hKl]; rfl
  rw [show decide ((Kl[k].toNat : Int) ≠ ((root (p % 4294967296) 3 % 18446744073709551616 : Nat) : Int)) = false from decide_eq_false (fun h => h (by rw [hv1]))]
  rcases Nat.lt_or_ge k 8 with h8 | h8
  · have hSl : k < Sl.length := h8
    have hv2 : Sl[k].toNat = root (p % 4294967296) 2 % 18446744073709551616 := by
      rw [hpm, ← hg2 h8, List.getD_eq_getElem?_getD, List.getElem?_eq_getElem hSl]; rfl
    refine wl_p (fun _ => o_move rfl) ?_
    refine wl_p (fun _ => o_lt rfl rfl) ?_
    rw [show decide ((k : Int) < 8) = true from decide_eq_true (by omega)]
    refine wl_p (fun _ => o_move rfl) ?_
    refine wl_p (fun _ => o_move rfl) ?_
    refine wl_p (fun _ => (o_iaddrP (k) Try.underlying28 Try.sizeOf25 rfl rfl rfl (by omega))) ?_
    refine wl_s (fun _ hk => (o_ldU Try.isAgg25 rfl (f_1.u (below_of_grown_none hk)) (by omega))) ?_
    refine wl_p (fun _ => o_move rfl) ?_
    refine wl_p (fun _ => o_convu64 (src := 3) (dst := 25) Try.underlying3 Try.underlying25 rfl (by omega) (by omega)) ?_
    refine wl_call rfl (C_refRoot _ (by omega)) ?_ (hq := .inr fun _ _ h => grown_of_below h.2 _)
    rintro v56 w56 ⟨rfl, b56⟩
    have s56 := b56.size
    replace hw := hw.trans (b56.mono hw.size)
    replace f := f.u b56
    replace f_1 := f_1.u b56
    refine wl_p (fun _ => o_ne rfl rfl) ?_
    refine wl_p (fun _ => o_pick_t rfl rfl) ?_
    refine wl_p (fun _ => o_pick_f rfl rfl) ?_
    refine wl_nild ?_
    refine rk_if rfl (fun h59 => absurd h59 (by omega)) (fun h59 => ?_)
    refine rk_skip ?_
    refine rk_seq ?_
    refine rk_region ?_
    refine wl_p (fun _ => o_move rfl) ?_
    refine wl_p (fun _ => o_convu64 (src := 22) (dst := 25) Try.underlying22 Try.underlying25 rfl (by omega) (by omega)) ?_
    refine wl_call rfl (C_Root _ (by omega)) ?_
    rintro v62 w62 ⟨rfl, b62⟩
    have s62 := b62.size
    replace hw := hw.trans (b62.mono hw.size)
    replace f_1 := f_1.u b62
    replace f := f.u b62
    refine wl_p (fun _ => o_move rfl) ?_
    refine wl_p (fun _ => o_convu64 (src := 22) (dst := 25) Try.underlying22 Try.underlying25 rfl (by omega) (by omega)) ?_
    refine wl_call rfl (C_refRoot _ (by omega)) ?_
    rintro v65 w65 ⟨rfl, b65⟩
    have s65 := b65.size
    replace hw := hw.trans (b65.mono hw.size)
    replace f := f.u b65
    replace f_1 := f_1.u b65
    refine wl_p (fun _ => o_eq rfl rfl) ?_
    refine wl_p (fun _ => o_move rfl) ?_
    refine wl_know 67 true rfl (decide_eq_true (by omega)) ?_
    refine wl_p (fun _ => o_move rfl) ?_
    refine wl_p (fun _ => o_convu64 (src := 22) (dst := 25) Try.underlying22 Try.underlying25 rfl (by omega) (by omega)) ?_
    refine wl_call rfl (C_Cube _ (by omega)) ?_
    rintro v70 w70 ⟨rfl, b70⟩
    have s70 := b70.size
    replace hw := hw.trans (b70.mono hw.size)
    replace f_1 := f_1.u b70
    replace f := f.u b70
    refine wl_p (fun _ => o_move rfl) ?_
    refine wl_p (fun _ => o_convu64 (src := 22) (dst := 25) Try.underlying22 Try.underlying25 rfl (by omega) (by omega)) ?_
    refine wl_call rfl (C_refCube _ (by omega)) ?_
    rintro v73 w73 ⟨rfl, b73⟩
    have s73 := b73.size
    replace hw := hw.trans (b73.mono hw.size)
    replace f := f.u b73
    replace f_1 := f_1.u b73
    refine wl_p (fun _ => o_eq rfl rfl) ?_
    refine wl_p (fun _ => o_pick_t rfl rfl) ?_
    refine wl_p (fun _ => o_assign rfl) ?_
    refine wl_nil ?_
    refine ret1 rfl rfl ?_
    exact ⟨congrArg Value.bool (decide_eq_true rfl), hw⟩
  · refine wl_p (fun _ => o_move rfl) ?_
    refine wl_p (fun _ => o_lt rfl rfl) ?_
    rw [show decide ((k : Int) < 8) = false from decide_eq_false (by omega)]
    refine wl_p (fun _ => o_move rfl) ?_
    refine wl_off ?_
    refine wl_off ?_
    refine wl_off ?_
    refine wl_off ?_
    refine wl_off ?_
    refine wl_off ?_
    refine wl_off ?_
    refine wl_p (fun _ => o_pick_f rfl rfl) ?_
    refine wl_p (fun _ => o_pick_f rfl rfl) ?_
    refine wl_nild ?_
    refine rk_false rfl ?_
    refine rk_skip ?_
    refine rk_seq ?_
    refine rk_region ?_
    refine wl_p (fun _ => o_move rfl) ?_
    refine wl_p (fun _ => o_convu64 (src := 22) (dst := 25) Try.underlying22 Try.underlying25 rfl (by omega) (by omega)) ?_
    refine wl_call rfl (C_Root _ (by omega)) ?_
    rintro v62 w62 ⟨rfl, b62⟩
    have s62 := b62.size
    replace hw := hw.trans (b62.mono hw.size)
    replace f := f.u b62
    replace f_1 := f_1.u b62
    refine wl_p (fun _ => o_move rfl) ?_
    refine wl_p (fun _ => o_convu64 (src := 22) (dst := 25) Try.underlying22 Try.underlying25 rfl (by omega) (by omega)) ?_
    refine wl_call rfl (C_refRoot _ (by omega)) ?_
    rintro v65 w65 ⟨rfl, b65⟩
    have s65 := b65.size
    replace hw := hw.trans (b65.mono hw.size)
    replace f_1 := f_1.u b65
    replace f := f.u b65
    refine wl_p (fun _ => o_eq rfl rfl) ?_
    refine wl_p (fun _ => o_move rfl) ?_
    refine wl_know 67 true rfl (decide_eq_true (by omega)) ?_
    refine wl_p (fun _ => o_move rfl) ?_
    refine wl_p (fun _ => o_convu64 (src := 22) (dst := 25) Try.underlying22 Try.underlying25 rfl (by omega) (by omega)) ?_
    refine wl_call rfl (C_Cube _ (by omega)) ?_
    rintro v70 w70 ⟨rfl, b70⟩
    have s70 := b70.size
    replace hw := hw.trans (b70.mono hw.size)
    replace f := f.u b70
    replace f_1 := f_1.u b70
    refine wl_p (fun _ => o_move rfl) ?_
    refine wl_p (fun _ => o_convu64 (src := 22) (dst := 25) Try.underlying22 Try.underlying25 rfl (by omega) (by omega)) ?_
    refine wl_call rfl (C_refCube _ (by omega)) ?_
    rintro v73 w73 ⟨rfl, b73⟩
    have s73 := b73.size
    replace hw := hw.trans (b73.mono hw.size)
    replace f_1 := f_1.u b73
    replace f := f.u b73
    refine wl_p (fun _ => o_eq rfl rfl) ?_
    refine wl_p (fun _ => o_pick_t rfl rfl) ?_
    refine wl_p (fun _ => o_assign rfl) ?_
    refine wl_nil ?_
    refine ret1 rfl rfl ?_
    exact ⟨congrArg Value.bool (decide_eq_true rfl), hw⟩
end Go.Proofs.Ytldhmnakkkjenaa
