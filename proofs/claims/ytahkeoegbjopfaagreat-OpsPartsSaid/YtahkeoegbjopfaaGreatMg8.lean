/-
  Walks of the kit's functions: states compared, copied.
-/
import Derived.Test.YtahkeoegbjopfaaGreatMg7
import GoSem.Op.String
namespace Go.Proofs.YtahkeoegbjopfaaGreat
set_option maxRecDepth 100000
open Go.RowKit
theorem C_kOwn {A : Option Addr} {p : By} {n c : Nat} (w : World) (hp : Rd w A p) (hn : n = p.length) (hl : p.length ≤ 4000000000) :
    CallsR Tryz.prog 14 [.slice A n c] w fun v w' => ∃ A' c', v = .slice A' p.length c' ∧ OwnH w' w.heap.size w'.heap.size A' c' p ∧ Below w.heap.size w w' := by
  subst hn
  refine callsR Tryz.func14 rfl rfl (by kernel_rfl) rfl ?_
  have hw := Below.refl w.heap.size w
  refine rk_seq ?_
  refine rk_region ?_
  refine wl_p (fun _ => o_assign rfl) ?_
  refine wl_nil ?_
  refine rk_seq ?_
  refine rk_region ?_
  refine wl_litB [] Tryz.u8 Tryz.sizeOf5 Tryz.zeroValue5 (by rfl) rfl rfl (by rfl) (by rfl) (by rfl) ?_
  rintro A3 w3 f3 b3
  have qf3 := f3.cap
  have s3 := b3.size
  replace hw := hw.trans (b3.mono hw.size)
  refine wl_p (fun _ => o_move rfl) ?_
  refine wl_appB Tryz.u8 rfl f3 (by rfl) rfl (hp.u hw) rfl (by omega) hw.size ?_
  rintro A5 c5 w5 f5 g5 b5 i5
  have qf5 := f5.cap
  have s5 := g5.size
  replace hw := hw.trans (b5.mono (by omega))
  clear f3
  refine wl_p (fun _ => o_assign rfl) ?_
  refine wl_nil ?_
  rw [List.nil_append] at f5 ⊢
  refine ret1 rfl rfl ?_
  exact ⟨_, _, rfl, f5, hw⟩
theorem C_kItem {A1 A2 B1 B2 : Option Addr} {a1 a2 b1 b2 : By} {c1 c2 d1 d2 n1 n2 m1 m2 : Nat} (w : World) (h1 : Rd w A1 a1) (h2 : Rd w A2 a2) (h3 : Rd w B1 b1) (h4 : Rd w B2 b2) (e1 : n1 = a1.length) (e2 : n2 = a2.length) (e3 : m1 = b1.length) (e4 : m2 = b2.length) :
    CallsR Tryz.prog 89 [.agg #[.slice A1 n1 c1, .slice A2 n2 c2], .agg #[.slice B1 m1 d1, .slice B2 m2 d2]] w fun v w' => v = .bool (decide ((a1, a2) = (b1, b2))) ∧ Below w.heap.size w w' := by
  subst e1; subst e2; subst e3; subst e4
  refine callsR Tryz.func89 rfl rfl (by kernel_rfl) rfl ?_
  have hw := Below.refl w.heap.size w
  by_cases ha : a1 = b1
  · refine rk_seq ?_
    refine rk_region ?_
    refine wl_boxg [_, _] rfl (by rfl) ?_
    rintro g2 w2 f2 b2_1 i2 i2_1
    have s2 := b2_1.size
    replace hw := hw.trans (b2_1.mono hw.size)
    refine wl_boxg [_, _] rfl (by rfl) ?_
    rintro g3 w3 f3 b3 i3 i3_1
    have s3 := b3.size
    replace hw := hw.trans (b3.mono hw.size)
    replace f2 := f2.u b3
    refine wl_p (fun _ => o_assign rfl) ?_
    refine wl_nil ?_
    refine rk_seq ?_
    refine rk_region ?_
    refine wl_p (fun _ => o_faddr (s := 94) (i := 0) (off := 0) Tryz.underlying94 rfl Tryz.sizeOf39 rfl rfl rfl) ?_
    refine wl_r (o_loadbg Tryz.isAgg39 rfl f2 (by rfl)) ?_
    refine wl_r (o_strU Tryz.underlying39 Tryz.underlying5 Tryz.underlying9 rfl h1 hw rfl) ?_
    refine wl_p (fun _ => o_faddr (s := 94) (i := 0) (off := 0) Tryz.underlying94 rfl Tryz.sizeOf39 rfl rfl rfl) ?_
    refine wl_r (o_loadbg Tryz.isAgg39 rfl f3 (by rfl)) ?_
    refine wl_r (o_strU Tryz.underlying39 Tryz.underlying5 Tryz.underlying9 rfl h3 hw rfl) ?_
    refine wl_p (fun _ => o_seq rfl rfl) ?_
    refine wl_p (fun _ => o_move rfl) ?_
    refine wl_know 12 true rfl (decide_eq_true (by omega)) ?_
    refine wl_p (fun _ => o_faddr (s := 94) (i := 1) (off := 1) Tryz.underlying94 rfl Tryz.sizeOf39 rfl rfl rfl) ?_
    refine wl_r (o_loadbg Tryz.isAgg39 rfl f2 (by rfl)) ?_
    refine wl_r (o_strU Tryz.underlying39 Tryz.underlying5 Tryz.underlying9 rfl h2 hw rfl) ?_
    refine wl_p (fun _ => o_faddr (s := 94) (i := 1) (off := 1) Tryz.underlying94 rfl Tryz.sizeOf39 rfl rfl rfl) ?_
    refine wl_r (o_loadbg Tryz.isAgg39 rfl f3 (by rfl)) ?_
    refine wl_r (o_strU Tryz.underlying39 Tryz.underlying5 Tryz.underlying9 rfl h4 hw rfl) ?_
    refine wl_p (fun _ => o_seq rfl rfl) ?_
    refine wl_p (fun _ => o_pick_t rfl rfl) ?_
    refine wl_p (fun _ => o_assign rfl) ?_
    refine wl_nil ?_
    refine ret1 rfl rfl ?_
    exact ⟨by simp [ha], hw⟩
  · refine rk_seq ?_
    refine rk_region ?_
    refine wl_boxg [_, _] rfl (by rfl) ?_
    rintro g2 w2 f2 b2_1 i2 i2_1
    have s2 := b2_1.size
    replace hw := hw.trans (b2_1.mono hw.size)
    refine wl_boxg [_, _] rfl (by rfl) ?_
    rintro g3 w3 f3 b3 i3 i3_1
    have s3 := b3.size
    replace hw := hw.trans (b3.mono hw.size)
    replace f2 := f2.u b3
    refine wl_p (fun _ => o_assign rfl) ?_
    refine wl_nil ?_
    refine rk_seq ?_
    refine rk_region ?_
    refine wl_p (fun _ => o_faddr (s := 94) (i := 0) (off := 0) Tryz.underlying94 rfl Tryz.sizeOf39 rfl rfl rfl) ?_
    refine wl_r (o_loadbg Tryz.isAgg39 rfl f2 (by rfl)) ?_
    refine wl_r (o_strU Tryz.underlying39 Tryz.underlying5 Tryz.underlying9 rfl h1 hw rfl) ?_
    refine wl_p (fun _ => o_faddr (s := 94) (i := 0) (off := 0) Tryz.underlying94 rfl Tryz.sizeOf39 rfl rfl rfl) ?_
    refine wl_r (o_loadbg Tryz.isAgg39 rfl f3 (by rfl)) ?_
    refine wl_r (o_strU Tryz.underlying39 Tryz.underlying5 Tryz.underlying9 rfl h3 hw rfl) ?_
    refine wl_p (fun _ => o_seq rfl rfl) ?_
    refine wl_p (fun _ => o_move rfl) ?_
    refine wl_know 12 false rfl (decide_eq_false (by omega)) ?_
    refine wl_off ?_
    refine wl_off ?_
    refine wl_off ?_
    refine wl_off ?_
    refine wl_off ?_
    refine wl_off ?_
    refine wl_off ?_
    refine wl_p (fun _ => o_pick_f rfl rfl) ?_
    refine wl_p (fun _ => o_assign rfl) ?_
    refine wl_nil ?_
    refine ret1 rfl rfl ?_
    exact ⟨by simp [ha], hw⟩
theorem C_kItems {A B : Option Addr} {L M : List (By × By)} {n c m d : Nat} (w : World) (hA : RI w A L) (hB : RI w B M) (hn : n = L.length) (hm : m = M.length) (hl : L.length ≤ 4000000) (hl2 : M.length ≤ 4000000) :
    CallsR Tryz.prog 47 [.slice A n c, .slice B m d] w fun v w' => v = .bool (decide (L = M)) ∧ Below w.heap.size w w' := by
  subst hn; subst hm
  refine callsR Tryz.func47 rfl rfl (by kernel_rfl) rfl ?_
  have hw := Below.refl w.heap.size w
  refine rk_seq ?_
  refine rk_region ?_
  refine wl_p (fun _ => o_assign rfl) ?_
  refine wl_nil ?_
  refine rk_seq ?_
  refine rk_seq ?_
  refine rk_region ?_
  refine wl_p (fun _ => o_move rfl) ?_
  refine wl_p (fun _ => o_len (t := 28) Tryz.underlying28 rfl) ?_
  refine wl_p (fun _ => o_move rfl) ?_
  refine wl_p (fun _ => o_len (t := 28) Tryz.underlying28 rfl) ?_
  refine wl_p (fun _ => o_ne rfl rfl) ?_
  refine wl_nil ?_
  refine rk_if rfl (fun h10 => ?_) (fun h10 => ?_)
  · refine rk_seq ?_
    refine rk_region ?_
    refine wl_p (fun _ => o_assign rfl) ?_
    refine wl_nil ?_
    refine ret1 rfl rfl ?_
    exact ⟨by rw [decide_eq_false (fun e : L = M => h10 (by rw [e]))], hw⟩
  refine rk_skip ?_
  refine rk_seq ?_
  refine rk_seq ?_
  refine rk_region ?_
  refine wl_p (fun _ => o_assign rfl) ?_
  refine wl_nil ?_
  refine rk_block ?_
  refine rk_joinf (fun fb fr w2 => fr = [] ++ fb.drop 1 ∧ L = M ∧ Below w.heap.size w w2) ?_ (fun ks hj => ?_)
  rotate_left
  · refine rk_loopf (fun fb m fr w2 => ∃ (i : Nat) (v : Int), fr = [(5, .int .i64 v)] ++ fb.drop 1 ∧ v = i ∧ i ≤ L.length ∧ m = L.length - i ∧ L.take i = M.take i ∧ Below w.heap.size w w2) (n := L.length) (Fr.le_of (by kernel_rfl) (by kernel_rfl) (by repeat' constructor)) ⟨0, _, rfl, rfl, by omega, rfl, rfl, hw⟩ ?_
    clear hw
    rintro m fr w2 ⟨i, v, rfl, rfl, hi, rfl, ht, hw⟩
    have shw := hw.size
    first | refine rk_frame (by simp only [List.cons_append, List.nil_append, List.drop_succ_cons, List.drop_zero]; rfl) ?_ | refine wl_frame (by simp only [List.cons_append, List.nil_append, List.drop_succ_cons, List.drop_zero]; rfl) ?_
    refine rk_seq ?_
    refine rk_seq ?_
    refine rk_region ?_
    refine wl_p (fun _ => o_move rfl) ?_
    refine wl_p (fun _ => o_move rfl) ?_
    refine wl_p (fun _ => o_len (t := 28) Tryz.underlying28 rfl) ?_
    refine wl_p (fun _ => o_lt rfl rfl) ?_
    refine wl_nil ?_
    refine rk_if rfl (fun h14 => ?_) (fun h14 => ?_)
    · have hiL : i < L.length := by omega
      have hiM : i < M.length := by omega
      by_cases he : (L[i].1, L[i].2) = (M[i].1, M[i].2)
      · refine rk_skip ?_
        refine rk_seq ?_
        refine rk_block ?_
        refine rk_seq ?_
        refine rk_draw (id := 6) (none) [0, 0, 3, 4, 0, 0, 48, 64, 136, 256] [0, 0, 3, 7, 0, 0, 48, 112, 255, 511] 256 0 [(.p, 0), (.p, 1), (.p, 2), (.r, 3), (.p, 4), (.p, 5), (.p, 6), (.r, 7), (.l, 8), (.p, 9)] (by kernel_rfl) (by kernel_rfl) (by kernel_rfl) (by kernel_rfl) (by kernel_rfl) ?_
        replace hw := hw.drew
        refine wl_p (fun _ => o_move rfl) ?_
        refine wl_p (fun _ => o_move rfl) ?_
        refine wl_p (fun _ => (o_iaddrA (i) Tryz.underlying28 Tryz.sizeOf94 rfl rfl rfl (hA.some_ (by omega)) (by omega))) ?_
        refine wl_ldItem rfl hA hw (by omega) ?_
        rintro A120 c120 A220 c220 f20 f20_1 i20 i20_1
        refine wl_p (fun _ => o_move rfl) ?_
        refine wl_p (fun _ => o_move rfl) ?_
        refine wl_p (fun _ => (o_iaddrA (i) Tryz.underlying28 Tryz.sizeOf94 rfl rfl rfl (hB.some_ (by omega)) (by omega))) ?_
        refine wl_ldItem rfl hB hw (by omega) ?_
        rintro A124 c124 A224 c224 f24 f24_1 i24 i24_1
        refine wl_call rfl (C_kItem _ (f20.u hw) (f20_1.u hw) (f24.u hw) (f24_1.u hw) rfl rfl rfl rfl) ?_
        rintro v25 w25 ⟨rfl, b25⟩
        simp only [drew_size] at b25
        have s25 := b25.size
        simp only [drew_size] at s25
        replace hw := hw.trans (b25.mono hw.size)
        refine wl_p (fun _ => o_not rfl) ?_
        refine wl_nild ?_
        rw [decide_eq_true he]
        refine rk_false rfl ?_
        refine rk_skip ?_
        refine rk_blk ?_
        refine rk_region ?_
        refine wl_p (fun _ => o_move rfl) ?_
        refine wl_p (fun _ => o_add rfl rfl (by omega) (by omega)) ?_
        refine wl_p (fun _ => o_assign rfl) ?_
        refine wl_nil ?_
        exact rk_againf (Fr.le_of (by kernel_rfl) (by kernel_rfl) (by repeat' constructor)) ⟨i + 1, (i : Int) + 1, rfl, by omega, by omega, rfl, by rw [List.take_succ_eq_append_getElem hiL, List.take_succ_eq_append_getElem hiM, ht]; exact congrArg (fun x => M.take i ++ [x]) he, hw⟩ (by omega)
      · refine rk_skip ?_
        refine rk_seq ?_
        refine rk_block ?_
        refine rk_seq ?_
        refine rk_draw (id := 6) (none) [0, 0, 3, 4, 0, 0, 48, 64, 136, 256] [0, 0, 3, 7, 0, 0, 48, 112, 255, 511] 256 0 [(.p, 0), (.p, 1), (.p, 2), (.r, 3), (.p, 4), (.p, 5), (.p, 6), (.r, 7), (.l, 8), (.p, 9)] (by kernel_rfl) (by kernel_rfl) (by kernel_rfl) (by kernel_rfl) (by kernel_rfl) ?_
        replace hw := hw.drew
        refine wl_p (fun _ => o_move rfl) ?_
        refine wl_p (fun _ => o_move rfl) ?_
        refine wl_p (fun _ => (o_iaddrA (i) Tryz.underlying28 Tryz.sizeOf94 rfl rfl rfl (hA.some_ (by omega)) (by omega))) ?_
        refine wl_ldItem rfl hA hw (by omega) ?_
        rintro A120 c120 A220 c220 f20 f20_1 i20 i20_1
        refine wl_p (fun _ => o_move rfl) ?_
        refine wl_p (fun _ => o_move rfl) ?_
        refine wl_p (fun _ => (o_iaddrA (i) Tryz.underlying28 Tryz.sizeOf94 rfl rfl rfl (hB.some_ (by omega)) (by omega))) ?_
        refine wl_ldItem rfl hB hw (by omega) ?_
        rintro A124 c124 A224 c224 f24 f24_1 i24 i24_1
        refine wl_call rfl (C_kItem _ (f20.u hw) (f20_1.u hw) (f24.u hw) (f24_1.u hw) rfl rfl rfl rfl) ?_
        rintro v25 w25 ⟨rfl, b25⟩
        simp only [drew_size] at b25
        have s25 := b25.size
        simp only [drew_size] at s25
        replace hw := hw.trans (b25.mono hw.size)
        refine wl_p (fun _ => o_not rfl) ?_
        refine wl_nild ?_
        rw [decide_eq_false he]
        refine rk_true rfl ?_
        refine rk_seq ?_
        refine rk_region ?_
        refine wl_p (fun _ => o_assign rfl) ?_
        refine wl_nil ?_
        refine ret1 rfl rfl ?_
        exact ⟨by rw [decide_eq_false (fun e : L = M => he (by subst e; rfl))], hw⟩
    · refine rk_exit rfl ?_
      have e : L = M := by
        rw [List.take_of_length_le (by omega), List.take_of_length_le (by omega)] at ht
        exact ht
      exact rk_tof hj (Fr.le_of (by kernel_rfl) (by kernel_rfl) (by repeat' constructor)) ⟨rfl, e, hw⟩
  clear hw
  rintro fr w2 ⟨rfl, e, hw⟩
  first | refine rk_frame (by simp only [List.cons_append, List.nil_append, List.drop_succ_cons, List.drop_zero]; rfl) ?_ | refine wl_frame (by simp only [List.cons_append, List.nil_append, List.drop_succ_cons, List.drop_zero]; rfl) ?_
  refine rk_seq ?_
  refine rk_region ?_
  refine wl_p (fun _ => o_assign rfl) ?_
  refine wl_nil ?_
  refine ret1 rfl rfl ?_
  exact ⟨by rw [decide_eq_true e], hw⟩
theorem C_kKeys {A B : Option Addr} {L M : List Ky} {n c m d : Nat} (w : World) (hA : RKs w A L) (hB : RKs w B M) (hn : n = L.length) (hm : m = M.length) (hl : L.length ≤ 4000000) (hl2 : M.length ≤ 4000000) :
    CallsR Tryz.prog 27 [.slice A n c, .slice B m d] w fun v w' => v = .bool (decide (L = M)) ∧ Below w.heap.size w w' := by
  subst hn; subst hm
  refine callsR Tryz.func27 rfl rfl (by kernel_rfl) rfl ?_
  have hw := Below.refl w.heap.size w
  refine rk_seq ?_
  refine rk_region ?_
  refine wl_p (fun _ => o_assign rfl) ?_
  refine wl_nil ?_
  refine rk_seq ?_
  refine rk_seq ?_
  refine rk_region ?_
  refine wl_p (fun _ => o_move rfl) ?_
  refine wl_p (fun _ => o_len (t := 29) Tryz.underlying29 rfl) ?_
  refine wl_p (fun _ => o_move rfl) ?_
  refine wl_p (fun _ => o_len (t := 29) Tryz.underlying29 rfl) ?_
  refine wl_p (fun _ => o_ne rfl rfl) ?_
  refine wl_nil ?_
  refine rk_if rfl (fun h10 => ?_) (fun h10 => ?_)
  · refine rk_seq ?_
    refine rk_region ?_
    refine wl_p (fun _ => o_assign rfl) ?_
    refine wl_nil ?_
    refine ret1 rfl rfl ?_
    exact ⟨by rw [decide_eq_false (fun e : L = M => h10 (by rw [e]))], hw⟩
  refine rk_skip ?_
  refine rk_seq ?_
  refine rk_seq ?_
  refine rk_region ?_
  refine wl_p (fun _ => o_assign rfl) ?_
  refine wl_nil ?_
  refine rk_block ?_
  refine rk_joinf (fun fb fr w2 => fr = [] ++ fb.drop 1 ∧ L = M ∧ Below w.heap.size w w2) ?_ (fun ks hj => ?_)
  rotate_left
  · refine rk_loopf (fun fb m fr w2 => ∃ (i : Nat) (v : Int), fr = [(5, .int .i64 v)] ++ fb.drop 1 ∧ v = i ∧ i ≤ L.length ∧ m = L.length - i ∧ L.take i = M.take i ∧ Below w.heap.size w w2) (n := L.length) (Fr.le_of (by kernel_rfl) (by kernel_rfl) (by repeat' constructor)) ⟨0, _, rfl, rfl, by omega, rfl, rfl, hw⟩ ?_
    clear hw
    rintro m fr w2 ⟨i, v, rfl, rfl, hi, rfl, ht, hw⟩
    have shw := hw.size
    first | refine rk_frame (by simp only [List.cons_append, List.nil_append, List.drop_succ_cons, List.drop_zero]; rfl) ?_ | refine wl_frame (by simp only [List.cons_append, List.nil_append, List.drop_succ_cons, List.drop_zero]; rfl) ?_
    refine rk_seq ?_
    refine rk_seq ?_
    refine rk_region ?_
    refine wl_p (fun _ => o_move rfl) ?_
    refine wl_p (fun _ => o_move rfl) ?_
    refine wl_p (fun _ => o_len (t := 29) Tryz.underlying29 rfl) ?_
    refine wl_p (fun _ => o_lt rfl rfl) ?_
    refine wl_nil ?_
    refine rk_if rfl (fun h14 => ?_) (fun h14 => ?_)
    · have hiL : i < L.length := by omega
      have hiM : i < M.length := by omega
      refine rk_skip ?_
      refine rk_seq ?_
      refine rk_block ?_
      refine rk_seq ?_
      refine rk_draw (id := 6) (none) [0, 0, 3, 4, 0, 0, 48, 64, 136] [0, 0, 3, 7, 0, 0, 48, 112, 255] 0 0 [(.p, 0), (.p, 1), (.p, 2), (.r, 3), (.p, 4), (.p, 5), (.p, 6), (.r, 7), (.p, 8)] (by kernel_rfl) (by kernel_rfl) (by kernel_rfl) (by kernel_rfl) (by kernel_rfl) ?_
      replace hw := hw.drew
      refine wl_p (fun _ => o_move rfl) ?_
      refine wl_p (fun _ => o_move rfl) ?_
      refine wl_p (fun _ => (o_iaddrA (i) Tryz.underlying29 Tryz.sizeOf42 rfl rfl rfl (hA.some_ (by omega)) (by omega))) ?_
      refine wl_r (o_ldKs rfl hA hw (by omega)) ?_
      refine wl_p (fun _ => o_move rfl) ?_
      refine wl_p (fun _ => o_move rfl) ?_
      refine wl_p (fun _ => (o_iaddrA (i) Tryz.underlying29 Tryz.sizeOf42 rfl rfl rfl (hB.some_ (by omega)) (by omega))) ?_
      refine wl_r (o_ldKs rfl hB hw (by omega)) ?_
      refine wl_p (fun _ => (o_neKy rfl rfl)) ?_
      refine wl_nild ?_
      refine rk_if rfl (fun h25 => ?_) (fun h25 => ?_)
      · refine rk_seq ?_
        refine rk_region ?_
        refine wl_p (fun _ => o_assign rfl) ?_
        refine wl_nil ?_
        refine ret1 rfl rfl ?_
        exact ⟨by rw [decide_eq_false (fun e : L = M => h25 (by subst e; rfl))], hw⟩
      · refine rk_skip ?_
        refine rk_blk ?_
        refine rk_region ?_
        refine wl_p (fun _ => o_move rfl) ?_
        refine wl_p (fun _ => o_add rfl rfl (by omega) (by omega)) ?_
        refine wl_p (fun _ => o_assign rfl) ?_
        refine wl_nil ?_
        exact rk_againf (Fr.le_of (by kernel_rfl) (by kernel_rfl) (by repeat' constructor)) ⟨i + 1, (i : Int) + 1, rfl, by omega, by omega, rfl, by rw [List.take_succ_eq_append_getElem hiL, List.take_succ_eq_append_getElem hiM, ht, Decidable.of_not_not h25], hw⟩ (by omega)
    · refine rk_exit rfl ?_
      have e : L = M := by
        rw [List.take_of_length_le (by omega), List.take_of_length_le (by omega)] at ht
        exact ht
      exact rk_tof hj (Fr.le_of (by kernel_rfl) (by kernel_rfl) (by repeat' constructor)) ⟨rfl, e, hw⟩
  clear hw
  rintro fr w2 ⟨rfl, e, hw⟩
  first | refine rk_frame (by simp only [List.cons_append, List.nil_append, List.drop_succ_cons, List.drop_zero]; rfl) ?_ | refine wl_frame (by simp only [List.cons_append, List.nil_append, List.drop_succ_cons, List.drop_zero]; rfl) ?_
  refine rk_seq ?_
  refine rk_region ?_
  refine wl_p (fun _ => o_assign rfl) ?_
  refine wl_nil ?_
  refine ret1 rfl rfl ?_
  exact ⟨by rw [decide_eq_true e], hw⟩
theorem C_kState {A K B A2 K2 B2 : Option Addr} {L M : List (By × By)} {X Y X2 Y2 : List Ky} {n q m c e d n2 q2 m2 c2 e2 d2 : Nat} (w : World) (hA : RI w A L) (hK : RKs w K X) (hB : RKs w B Y) (hA2 : RI w A2 M) (hK2 : RKs w K2 X2) (hB2 : RKs w B2 Y2) (hn : n = L.length) (hq : q = X.length) (hm : m = Y.length) (hn2 : n2 = M.length) (hq2 : q2 = X2.length) (hm2 : m2 = Y2.length) (hl : L.length ≤ 4000000) (hl2 : M.length ≤ 4000000) (hl3 : X.length ≤ 4000000) (hl4 : Y.length ≤ 4000000) (hl5 : X2.length ≤ 4000000) (hl6 : Y2.length ≤ 4000000) :
    CallsR Tryz.prog 18 [.agg #[.slice A n c, .slice K q e, .slice B m d], .agg #[.slice A2 n2 c2, .slice K2 q2 e2, .slice B2 m2 d2]] w fun v w' => v = .bool (decide ((L, X, Y) = (M, X2, Y2))) ∧ Below w.heap.size w w' := by
  subst hn; subst hm; subst hn2; subst hm2; subst hq; subst hq2
  refine callsR Tryz.func18 rfl rfl (by kernel_rfl) rfl ?_
  have hw := Below.refl w.heap.size w
  by_cases h1 : L = M
  · by_cases h2 : X = X2
    · refine rk_seq ?_
      refine rk_region ?_
      refine wl_boxg [_, _, _] rfl (by rfl) ?_
      rintro g2 w2 f2 b2 i2 i2_1
      have s2 := b2.size
      replace hw := hw.trans (b2.mono hw.size)
      refine wl_boxg [_, _, _] rfl (by rfl) ?_
      rintro g3 w3 f3 b3 i3 i3_1
      have s3 := b3.size
      replace hw := hw.trans (b3.mono hw.size)
      replace f2 := f2.u b3
      refine wl_p (fun _ => o_assign rfl) ?_
      refine wl_nil ?_
      refine rk_seq ?_
      refine rk_region ?_
      refine wl_p (fun _ => o_faddr (s := 31) (i := 0) (off := 0) Tryz.underlying31 rfl Tryz.sizeOf28 rfl rfl rfl) ?_
      refine wl_r (o_loadbg Tryz.isAgg28 rfl f2 (by rfl)) ?_
      refine wl_p (fun _ => o_faddr (s := 31) (i := 0) (off := 0) Tryz.underlying31 rfl Tryz.sizeOf28 rfl rfl rfl) ?_
      refine wl_r (o_loadbg Tryz.isAgg28 rfl f3 (by rfl)) ?_
      refine wl_call rfl (C_kItems _ (hA.u hw) (hA2.u hw) rfl rfl (by omega) (by omega)) ?_
      rintro v9 w9 ⟨rfl, b9⟩
      have s9 := b9.size
      replace hw := hw.trans (b9.mono hw.size)
      replace f2 := f2.u b9
      replace f3 := f3.u b9
      refine wl_p (fun _ => o_move rfl) ?_
      refine wl_know 10 true rfl (decide_eq_true (by omega)) ?_
      refine wl_p (fun _ => o_faddr (s := 31) (i := 1) (off := 1) Tryz.underlying31 rfl Tryz.sizeOf29 rfl rfl rfl) ?_
      refine wl_r (o_loadbg Tryz.isAgg29 rfl f2 (by rfl)) ?_
      refine wl_p (fun _ => o_faddr (s := 31) (i := 1) (off := 1) Tryz.underlying31 rfl Tryz.sizeOf29 rfl rfl rfl) ?_
      refine wl_r (o_loadbg Tryz.isAgg29 rfl f3 (by rfl)) ?_
      refine wl_call rfl (C_kKeys _ (hK.u hw) (hK2.u hw) rfl rfl (by omega) (by omega)) ?_
      rintro v15 w15 ⟨rfl, b15⟩
      have s15 := b15.size
      replace hw := hw.trans (b15.mono hw.size)
      replace f3 := f3.u b15
      replace f2 := f2.u b15
      refine wl_p (fun _ => o_pick_t rfl rfl) ?_
      refine wl_p (fun _ => o_move rfl) ?_
      refine wl_know 17 true rfl (decide_eq_true (by omega)) ?_
      refine wl_p (fun _ => o_faddr (s := 31) (i := 2) (off := 2) Tryz.underlying31 rfl Tryz.sizeOf29 rfl rfl rfl) ?_
      refine wl_r (o_loadbg Tryz.isAgg29 rfl f2 (by rfl)) ?_
      refine wl_p (fun _ => o_faddr (s := 31) (i := 2) (off := 2) Tryz.underlying31 rfl Tryz.sizeOf29 rfl rfl rfl) ?_
      refine wl_r (o_loadbg Tryz.isAgg29 rfl f3 (by rfl)) ?_
      refine wl_call rfl (C_kKeys _ (hB.u hw) (hB2.u hw) rfl rfl (by omega) (by omega)) ?_
      rintro v22 w22 ⟨rfl, b22⟩
      have s22 := b22.size
      replace hw := hw.trans (b22.mono hw.size)
      replace f2 := f2.u b22
      replace f3 := f3.u b22
      refine wl_p (fun _ => o_pick_t rfl rfl) ?_
      refine wl_p (fun _ => o_assign rfl) ?_
      refine wl_nil ?_
      refine ret1 rfl rfl ?_
      exact ⟨by simp [h1, h2], hw⟩
    · refine rk_seq ?_
      refine rk_region ?_
      refine wl_boxg [_, _, _] rfl (by rfl) ?_
      rintro g2 w2 f2 b2 i2 i2_1
      have s2 := b2.size
      replace hw := hw.trans (b2.mono hw.size)
      refine wl_boxg [_, _, _] rfl (by rfl) ?_
      rintro g3 w3 f3 b3 i3 i3_1
      have s3 := b3.size
      replace hw := hw.trans (b3.mono hw.size)
      replace f2 := f2.u b3
      refine wl_p (fun _ => o_assign rfl) ?_
      refine wl_nil ?_
      refine rk_seq ?_
      refine rk_region ?_
      refine wl_p (fun _ => o_faddr (s := 31) (i := 0) (off := 0) Tryz.underlying31 rfl Tryz.sizeOf28 rfl rfl rfl) ?_
      refine wl_r (o_loadbg Tryz.isAgg28 rfl f2 (by rfl)) ?_
      refine wl_p (fun _ => o_faddr (s := 31) (i := 0) (off := 0) Tryz.underlying31 rfl Tryz.sizeOf28 rfl rfl rfl) ?_
      refine wl_r (o_loadbg Tryz.isAgg28 rfl f3 (by rfl)) ?_
      refine wl_call rfl (C_kItems _ (hA.u hw) (hA2.u hw) rfl rfl (by omega) (by omega)) ?_
      rintro v9 w9 ⟨rfl, b9⟩
      have s9 := b9.size
      replace hw := hw.trans (b9.mono hw.size)
      replace f2 := f2.u b9
      replace f3 := f3.u b9
      refine wl_p (fun _ => o_move rfl) ?_
      refine wl_know 10 true rfl (decide_eq_true (by omega)) ?_
      refine wl_p (fun _ => o_faddr (s := 31) (i := 1) (off := 1) Tryz.underlying31 rfl Tryz.sizeOf29 rfl rfl rfl) ?_
      refine wl_r (o_loadbg Tryz.isAgg29 rfl f2 (by rfl)) ?_
      refine wl_p (fun _ => o_faddr (s := 31) (i := 1) (off := 1) Tryz.underlying31 rfl Tryz.sizeOf29 rfl rfl rfl) ?_
      refine wl_r (o_loadbg Tryz.isAgg29 rfl f3 (by rfl)) ?_
      refine wl_call rfl (C_kKeys _ (hK.u hw) (hK2.u hw) rfl rfl (by omega) (by omega)) ?_
      rintro v15 w15 ⟨rfl, b15⟩
      have s15 := b15.size
      replace hw := hw.trans (b15.mono hw.size)
      replace f3 := f3.u b15
      replace f2 := f2.u b15
      refine wl_p (fun _ => o_pick_t rfl rfl) ?_
      refine wl_p (fun _ => o_move rfl) ?_
      refine wl_know 17 false rfl (decide_eq_false (by omega)) ?_
      refine wl_off ?_
      refine wl_off ?_
      refine wl_off ?_
      refine wl_off ?_
      refine wl_off ?_
      refine wl_p (fun _ => o_pick_f rfl rfl) ?_
      refine wl_p (fun _ => o_assign rfl) ?_
      refine wl_nil ?_
      refine ret1 rfl rfl ?_
      exact ⟨by simp [h1, h2], hw⟩
  · refine rk_seq ?_
    refine rk_region ?_
    refine wl_boxg [_, _, _] rfl (by rfl) ?_
    rintro g2 w2 f2 b2 i2 i2_1
    have s2 := b2.size
    replace hw := hw.trans (b2.mono hw.size)
    refine wl_boxg [_, _, _] rfl (by rfl) ?_
    rintro g3 w3 f3 b3 i3 i3_1
    have s3 := b3.size
    replace hw := hw.trans (b3.mono hw.size)
    replace f2 := f2.u b3
    refine wl_p (fun _ => o_assign rfl) ?_
    refine wl_nil ?_
    refine rk_seq ?_
    refine rk_region ?_
    refine wl_p (fun _ => o_faddr (s := 31) (i := 0) (off := 0) Tryz.underlying31 rfl Tryz.sizeOf28 rfl rfl rfl) ?_
    refine wl_r (o_loadbg Tryz.isAgg28 rfl f2 (by rfl)) ?_
    refine wl_p (fun _ => o_faddr (s := 31) (i := 0) (off := 0) Tryz.underlying31 rfl Tryz.sizeOf28 rfl rfl rfl) ?_
    refine wl_r (o_loadbg Tryz.isAgg28 rfl f3 (by rfl)) ?_
    refine wl_call rfl (C_kItems _ (hA.u hw) (hA2.u hw) rfl rfl (by omega) (by omega)) ?_
    rintro v9 w9 ⟨rfl, b9⟩
    have s9 := b9.size
    replace hw := hw.trans (b9.mono hw.size)
    replace f2 := f2.u b9
    replace f3 := f3.u b9
    refine wl_p (fun _ => o_move rfl) ?_
    refine wl_know 10 false rfl (decide_eq_false (by omega)) ?_
    refine wl_off ?_
    refine wl_off ?_
    refine wl_off ?_
    refine wl_off ?_
    refine wl_off ?_
    refine wl_p (fun _ => o_pick_f rfl rfl) ?_
    refine wl_p (fun _ => o_move rfl) ?_
    refine wl_off ?_
    refine wl_off ?_
    refine wl_off ?_
    refine wl_off ?_
    refine wl_off ?_
    refine wl_p (fun _ => o_pick_f rfl rfl) ?_
    refine wl_p (fun _ => o_assign rfl) ?_
    refine wl_nil ?_
    refine ret1 rfl rfl ?_
    exact ⟨by simp [h1], hw⟩
section
variable {fn : Func} {F : Ending → World → Prop} {N : Nat} {ks : List K} {ops : Array Oper} {tg : Tags} {l : List Oper} {fr : Fr} {w w0 : World} {ty : TypeId} {pos : String} {aft : Array Edge} {gd : Option (Nat × Bool)} {d0 j o : Nat} {x : Operand} {A : Option Addr} {L : List Opn}
--@ rule load l wl_ldOpK
theorem wl_ldOpK (hx : fr.ev x = some (.pointer (some (adr A (j * 35 + o))))) (ho : o = 1) (hr : RO w0 A L) (hb : Below w0.heap.size w0 w) (hj : j < L.length)
    (hk : ∀ K c, Rd w0 K L[j].2.1 → L[j].2.1.length ≤ c → WL Tryz.prog fn F N ks ops tg.tail l ((d0, .slice K L[j].2.1.length c) :: fr) w)
    (ht : tg.reads = true := by rfl) (hg : onG ops fr gd = true := by rfl) (hd : Nat.blt d0 N = true := by rfl) : WL Tryz.prog fn F N ks ops tg (⟨some d0, .load 39 x, ty, pos, aft, gd⟩ :: l) fr w := by
  subst ho
  obtain ⟨K, c, V, d, h1, h2, h3, h4, _⟩ := hr.elem hj
  exact wl_r (o_load (t := 39) Tryz.isAgg39 hx (h1.u hb 1 _ rfl)) (hk K c h2 h4) ht hg hd
--@ rule load l wl_ldOpV
theorem wl_ldOpV (hx : fr.ev x = some (.pointer (some (adr A (j * 35 + o))))) (ho : o = 2) (hr : RO w0 A L) (hb : Below w0.heap.size w0 w) (hj : j < L.length)
    (hk : ∀ K c, Rd w0 K L[j].2.2.1 → L[j].2.2.1.length ≤ c → WL Tryz.prog fn F N ks ops tg.tail l ((d0, .slice K L[j].2.2.1.length c) :: fr) w)
    (ht : tg.reads = true := by rfl) (hg : onG ops fr gd = true := by rfl) (hd : Nat.blt d0 N = true := by rfl) : WL Tryz.prog fn F N ks ops tg (⟨some d0, .load 39 x, ty, pos, aft, gd⟩ :: l) fr w := by
  subst ho
  obtain ⟨K, c, V, d, h1, h2, h3, h4, _, h5, _⟩ := hr.elem hj
  exact wl_r (o_load (t := 39) Tryz.isAgg39 hx (h1.u hb 2 _ rfl)) (hk V d h3 h5) ht hg hd
end
/-- The ops are few, and small. -/
def LtO (L : List Opn) (m : Nat) : Prop := L.length ≤ m ∧ ∀ o ∈ L, o.2.1.length ≤ 300 ∧ o.2.2.1.length ≤ 300
set_option maxRecDepth 100000 in
set_option maxHeartbeats 2000000 in
theorem C_lightOps {A : Option Addr} {L : List Opn} {n c m : Nat} {mi : Int} (w : World) (hL : RO w A L) (hn : n = L.length) (hm : mi = (m : Int)) (hl : L.length ≤ 9223372036854775807) (hmm : m ≤ 1000) :
    CallsR Tryz.prog 25 [.slice A n c, .int .i64 mi] w fun v w' => ∃ b, v = .bool b ∧ (b = true ↔ LtO L m) ∧ Below w.heap.size w w' := by
  subst hn; subst hm
  refine callsR Tryz.func25 rfl rfl (by kernel_rfl) rfl ?_
  have hw := Below.refl w.heap.size w
  refine rk_seq ?_
  refine rk_region ?_
  refine wl_p (fun _ => o_assign rfl) ?_
  refine wl_nil ?_
  refine rk_seq ?_
  refine rk_seq ?_
  refine rk_region ?_
  refine wl_p (fun _ => o_move rfl) ?_
  refine wl_p (fun _ => o_len (t := 35) Tryz.underlying35 rfl) ?_
  refine wl_p (fun _ => o_move rfl) ?_
  refine wl_p (fun _ => o_gt rfl rfl) ?_
  refine wl_nil ?_
  refine rk_if rfl (fun h9 => ?_) (fun h9 => ?_)
  · refine rk_seq ?_
    refine rk_region ?_
    refine wl_p (fun _ => o_assign rfl) ?_
    refine wl_nil ?_
    refine ret1 rfl rfl ?_
    exact ⟨false, rfl, ⟨fun h => (by cases h), fun h => by have := h.1; omega⟩, hw⟩
  refine rk_skip ?_
  refine rk_seq ?_
  refine rk_seq ?_
  refine rk_region ?_
  refine wl_p (fun _ => o_assign rfl) ?_
  refine wl_nil ?_
  refine rk_block ?_
  refine rk_joinf (fun fb fr w2 => fr = [] ++ fb.drop 1 ∧ (∀ j (h : j < L.length), L[j].2.1.length ≤ 300 ∧ L[j].2.2.1.length ≤ 300) ∧ Below w.heap.size w w2) ?_ (fun ks hj => ?_)
  rotate_left
  · refine rk_loopf (fun fb k fr w2 => ∃ (i : Nat) (v : Int), fr = [(5, .int .i64 v)] ++ fb.drop 1 ∧ v = i ∧ i ≤ L.length ∧ k = L.length - i ∧ (∀ j (h : j < L.length), j < i → L[j].2.1.length ≤ 300 ∧ L[j].2.2.1.length ≤ 300) ∧ Below w.heap.size w w2) (n := L.length) (Fr.le_of (by kernel_rfl) (by kernel_rfl) (by repeat' constructor)) ⟨0, _, rfl, rfl, by omega, rfl, fun j _ h => absurd h (Nat.not_lt_zero _), hw⟩ ?_
    clear hw
    rintro k fr w2 ⟨i, v, rfl, rfl, hi, rfl, hok, hw⟩
    have shw := hw.size
    first | refine rk_frame (by simp only [List.cons_append, List.nil_append, List.drop_succ_cons, List.drop_zero]; rfl) ?_ | refine wl_frame (by simp only [List.cons_append, List.nil_append, List.drop_succ_cons, List.drop_zero]; rfl) ?_
    refine rk_seq ?_
    refine rk_seq ?_
    refine rk_region ?_
    refine wl_p (fun _ => o_move rfl) ?_
    refine wl_p (fun _ => o_move rfl) ?_
    refine wl_p (fun _ => o_len (t := 35) Tryz.underlying35 rfl) ?_
    refine wl_p (fun _ => o_lt rfl rfl) ?_
    refine wl_nil ?_
    refine rk_if rfl (fun h13 => ?_) (fun h13 => ?_)
    · have hil : i < L.length := by omega
      by_cases k1 : 300 < L[i].2.1.length
      · refine rk_skip ?_
        refine rk_seq ?_
        refine rk_block ?_
        refine rk_seq ?_
        refine rk_region ?_
        refine wl_p (fun _ => o_move rfl) ?_
        refine wl_p (fun _ => o_move rfl) ?_
        refine wl_p (fun _ => (o_iaddrA (i) Tryz.underlying35 Tryz.sizeOf54 rfl rfl rfl (hL.some_ (by omega)) (by omega))) ?_
        refine wl_p (fun _ => (o_faddrR rfl Tryz.underlying54 (by rfl) Tryz.sizeOf39 (by rfl) (by rfl))) ?_
        refine wl_ldOpK rfl (by rfl) hL hw (by omega) ?_
        rintro K20 c20 f20 i20
        refine wl_p (fun _ => o_len (t := 39) Tryz.underlying39 rfl) ?_
        refine wl_p (fun _ => o_gt rfl rfl) ?_
        refine wl_p (fun _ => o_move rfl) ?_
        refine wl_know 23 true rfl (decide_eq_true (by omega)) ?_
        refine wl_off ?_
        refine wl_off ?_
        refine wl_off ?_
        refine wl_off ?_
        refine wl_off ?_
        refine wl_off ?_
        refine wl_off ?_
        refine wl_p (fun _ => o_pick_t rfl rfl) ?_
        refine wl_nil ?_
        refine rk_true rfl ?_
        refine rk_seq ?_
        refine rk_region ?_
        refine wl_p (fun _ => o_assign rfl) ?_
        refine wl_nil ?_
        refine ret1 rfl rfl ?_
        exact ⟨false, rfl, ⟨fun h => (by cases h), fun h => by have := (h.2 _ (List.getElem_mem hil)).1; omega⟩, hw⟩
      · by_cases k2 : 300 < L[i].2.2.1.length
        · refine rk_skip ?_
          refine rk_seq ?_
          refine rk_block ?_
          refine rk_seq ?_
          refine rk_region ?_
          refine wl_p (fun _ => o_move rfl) ?_
          refine wl_p (fun _ => o_move rfl) ?_
          refine wl_p (fun _ => (o_iaddrA (i) Tryz.underlying35 Tryz.sizeOf54 rfl rfl rfl (hL.some_ (by omega)) (by omega))) ?_
          refine wl_p (fun _ => (o_faddrR rfl Tryz.underlying54 (by rfl) Tryz.sizeOf39 (by rfl) (by rfl))) ?_
          refine wl_ldOpK rfl (by rfl) hL hw (by omega) ?_
          rintro K20 c20 f20 i20
          refine wl_p (fun _ => o_len (t := 39) Tryz.underlying39 rfl) ?_
          refine wl_p (fun _ => o_gt rfl rfl) ?_
          refine wl_p (fun _ => o_move rfl) ?_
          refine wl_know 23 false rfl (decide_eq_false (by omega)) ?_
          refine wl_p (fun _ => o_move rfl) ?_
          refine wl_p (fun _ => o_move rfl) ?_
          refine wl_p (fun _ => (o_iaddrA (i) Tryz.underlying35 Tryz.sizeOf54 rfl rfl rfl (hL.some_ (by omega)) (by omega))) ?_
          refine wl_p (fun _ => (o_faddrR rfl Tryz.underlying54 (by rfl) Tryz.sizeOf39 (by rfl) (by rfl))) ?_
          refine wl_ldOpV rfl (by rfl) hL hw (by omega) ?_
          rintro K28 c28 f28 i28
          refine wl_p (fun _ => o_len (t := 39) Tryz.underlying39 rfl) ?_
          refine wl_p (fun _ => o_gt rfl rfl) ?_
          refine wl_p (fun _ => o_pick_f rfl rfl) ?_
          refine wl_nil ?_
          refine rk_if rfl (fun h31 => ?_) (fun h31 => h31.elim (by omega))
          refine rk_seq ?_
          refine rk_region ?_
          refine wl_p (fun _ => o_assign rfl) ?_
          refine wl_nil ?_
          refine ret1 rfl rfl ?_
          exact ⟨false, rfl, ⟨fun h => (by cases h), fun h => by have := (h.2 _ (List.getElem_mem hil)).2; omega⟩, hw⟩
        · refine rk_skip ?_
          refine rk_seq ?_
          refine rk_block ?_
          refine rk_seq ?_
          refine rk_region ?_
          refine wl_p (fun _ => o_move rfl) ?_
          refine wl_p (fun _ => o_move rfl) ?_
          refine wl_p (fun _ => (o_iaddrA (i) Tryz.underlying35 Tryz.sizeOf54 rfl rfl rfl (hL.some_ (by omega)) (by omega))) ?_
          refine wl_p (fun _ => (o_faddrR rfl Tryz.underlying54 (by rfl) Tryz.sizeOf39 (by rfl) (by rfl))) ?_
          refine wl_ldOpK rfl (by rfl) hL hw (by omega) ?_
          rintro K20 c20 f20 i20
          refine wl_p (fun _ => o_len (t := 39) Tryz.underlying39 rfl) ?_
          refine wl_p (fun _ => o_gt rfl rfl) ?_
          refine wl_p (fun _ => o_move rfl) ?_
          refine wl_know 23 false rfl (decide_eq_false (by omega)) ?_
          refine wl_p (fun _ => o_move rfl) ?_
          refine wl_p (fun _ => o_move rfl) ?_
          refine wl_p (fun _ => (o_iaddrA (i) Tryz.underlying35 Tryz.sizeOf54 rfl rfl rfl (hL.some_ (by omega)) (by omega))) ?_
          refine wl_p (fun _ => (o_faddrR rfl Tryz.underlying54 (by rfl) Tryz.sizeOf39 (by rfl) (by rfl))) ?_
          refine wl_ldOpV rfl (by rfl) hL hw (by omega) ?_
          rintro K28 c28 f28 i28
          refine wl_p (fun _ => o_len (t := 39) Tryz.underlying39 rfl) ?_
          refine wl_p (fun _ => o_gt rfl rfl) ?_
          refine wl_p (fun _ => o_pick_f rfl rfl) ?_
          refine wl_nil ?_
          refine rk_if rfl (fun h31 => absurd h31 (by omega)) (fun h31 => ?_)
          refine rk_skip ?_
          refine rk_blk ?_
          refine rk_region ?_
          refine wl_p (fun _ => o_move rfl) ?_
          refine wl_p (fun _ => o_add rfl rfl (by omega) (by omega)) ?_
          refine wl_p (fun _ => o_assign rfl) ?_
          refine wl_nil ?_
          exact rk_againf (Fr.le_of (by kernel_rfl) (by kernel_rfl) (by repeat' constructor)) ⟨i + 1, (i : Int) + 1, rfl, by omega, by omega, rfl, fun j hj hji => by
            rcases Nat.lt_or_ge j i with h | h
            · exact hok j hj h
            · obtain rfl : j = i := by omega
              exact ⟨by omega, by omega⟩, hw⟩ (by omega)
    · refine rk_exit rfl ?_
      exact rk_tof hj (Fr.le_of (by kernel_rfl) (by kernel_rfl) (by repeat' constructor)) ⟨rfl, fun j h => hok j h (by omega), hw⟩
  clear hw
  rintro fr w2 ⟨rfl, hok, hw⟩
  first | refine rk_frame (by simp only [List.cons_append, List.nil_append, List.drop_succ_cons, List.drop_zero]; rfl) ?_ | refine wl_frame (by simp only [List.cons_append, List.nil_append, List.drop_succ_cons, List.drop_zero]; rfl) ?_
  refine rk_seq ?_
  refine rk_region ?_
  refine wl_p (fun _ => o_assign rfl) ?_
  refine wl_nil ?_
  refine ret1 rfl rfl ?_
  exact ⟨true, rfl, ⟨fun _ => ⟨by omega, fun o ho => by obtain ⟨j, hj, rfl⟩ := List.getElem_of_mem ho; exact hok j hj⟩, fun _ => rfl⟩, hw⟩
/-- The state is small. -/
def LtS (I : List (By × By)) (X Y : List Ky) (m : Nat) : Prop := I.length ≤ m ∧ X.length ≤ 40 ∧ Y.length ≤ 40 ∧ ∀ x ∈ I, x.1.length ≤ 300 ∧ x.2.length ≤ 300
set_option maxRecDepth 100000 in
set_option maxHeartbeats 2000000 in
theorem C_lightState {A B C : Option Addr} {I : List (By × By)} {X Y : List Ky} {n c p d q e m : Nat} {mi : Int} (w : World) (hA : RI w A I) (hn : n = I.length) (hp : p = X.length) (hq : q = Y.length) (hm : mi = (m : Int)) (hmm : m ≤ 1000) :
    CallsR Tryz.prog 20 [.agg #[.slice A n c, .slice B p d, .slice C q e], .int .i64 mi] w fun v w' => ∃ b, v = .bool b ∧ (b = true ↔ LtS I X Y m) ∧ Below w.heap.size w w' := by
  subst hn; subst hm; subst hp; subst hq
  refine callsR Tryz.func20 rfl rfl (by kernel_rfl) rfl ?_
  have hw := Below.refl w.heap.size w
  by_cases h1 : m < I.length
  · refine rk_seq ?_
    refine rk_region ?_
    refine wl_boxg [_, _, _] rfl (by rfl) ?_
    rintro g2 w2 f2 b2 i2 i2_1
    have s2 := b2.size
    replace hw := hw.trans (b2.mono hw.size)
    refine wl_p (fun _ => o_assign rfl) ?_
    refine wl_nil ?_
    refine rk_seq ?_
    refine rk_seq ?_
    refine rk_region ?_
    refine wl_p (fun _ => o_faddr (s := 31) (i := 0) (off := 0) Tryz.underlying31 rfl Tryz.sizeOf28 rfl rfl rfl) ?_
    refine wl_r (o_loadbg Tryz.isAgg28 rfl f2 (by rfl)) ?_
    refine wl_p (fun _ => o_len (t := 28) Tryz.underlying28 rfl) ?_
    refine wl_p (fun _ => o_move rfl) ?_
    refine wl_p (fun _ => o_gt rfl rfl) ?_
    refine wl_p (fun _ => o_move rfl) ?_
    refine wl_know 11 true rfl (decide_eq_true (by omega)) ?_
    refine wl_off ?_
    refine wl_off ?_
    refine wl_off ?_
    refine wl_off ?_
    refine wl_p (fun _ => o_pick_t rfl rfl) ?_
    refine wl_p (fun _ => o_move rfl) ?_
    refine wl_off ?_
    refine wl_off ?_
    refine wl_off ?_
    refine wl_off ?_
    refine wl_p (fun _ => o_pick_t rfl rfl) ?_
    refine wl_nil ?_
    refine rk_true rfl ?_
    refine rk_seq ?_
    refine rk_region ?_
    refine wl_p (fun _ => o_assign rfl) ?_
    refine wl_nil ?_
    refine ret1 rfl rfl ?_
    exact ⟨false, rfl, ⟨fun h => (by cases h), fun h => by have := h.1; omega⟩, hw⟩
  by_cases h2 : 40 < X.length
  · refine rk_seq ?_
    refine rk_region ?_
    refine wl_boxg [_, _, _] rfl (by rfl) ?_
    rintro g2 w2 f2 b2 i2 i2_1
    have s2 := b2.size
    replace hw := hw.trans (b2.mono hw.size)
    refine wl_p (fun _ => o_assign rfl) ?_
    refine wl_nil ?_
    refine rk_seq ?_
    refine rk_seq ?_
    refine rk_region ?_
    refine wl_p (fun _ => o_faddr (s := 31) (i := 0) (off := 0) Tryz.underlying31 rfl Tryz.sizeOf28 rfl rfl rfl) ?_
    refine wl_r (o_loadbg Tryz.isAgg28 rfl f2 (by rfl)) ?_
    refine wl_p (fun _ => o_len (t := 28) Tryz.underlying28 rfl) ?_
    refine wl_p (fun _ => o_move rfl) ?_
    refine wl_p (fun _ => o_gt rfl rfl) ?_
    refine wl_p (fun _ => o_move rfl) ?_
    refine wl_know 11 false rfl (decide_eq_false (by omega)) ?_
    refine wl_p (fun _ => o_faddr (s := 31) (i := 1) (off := 1) Tryz.underlying31 rfl Tryz.sizeOf29 rfl rfl rfl) ?_
    refine wl_r (o_loadbg Tryz.isAgg29 rfl f2 (by rfl)) ?_
    refine wl_p (fun _ => o_len (t := 29) Tryz.underlying29 rfl) ?_
    refine wl_p (fun _ => o_gt rfl rfl) ?_
    refine wl_p (fun _ => o_pick_f rfl rfl) ?_
    refine wl_p (fun _ => o_move rfl) ?_
    refine wl_know 17 true rfl (decide_eq_true (by omega)) ?_
    refine wl_off ?_
    refine wl_off ?_
    refine wl_off ?_
    refine wl_off ?_
    refine wl_p (fun _ => o_pick_t rfl rfl) ?_
    refine wl_nil ?_
    refine rk_true rfl ?_
    refine rk_seq ?_
    refine rk_region ?_
    refine wl_p (fun _ => o_assign rfl) ?_
    refine wl_nil ?_
    refine ret1 rfl rfl ?_
    exact ⟨false, rfl, ⟨fun h => (by cases h), fun h => by have := h.2.1; omega⟩, hw⟩
  by_cases h3 : 40 < Y.length
  · refine rk_seq ?_
    refine rk_region ?_
    refine wl_boxg [_, _, _] rfl (by rfl) ?_
    rintro g2 w2 f2 b2 i2 i2_1
    have s2 := b2.size
    replace hw := hw.trans (b2.mono hw.size)
    refine wl_p (fun _ => o_assign rfl) ?_
    refine wl_nil ?_
    refine rk_seq ?_
    refine rk_seq ?_
    refine rk_region ?_
    refine wl_p (fun _ => o_faddr (s := 31) (i := 0) (off := 0) Tryz.underlying31 rfl Tryz.sizeOf28 rfl rfl rfl) ?_
    refine wl_r (o_loadbg Tryz.isAgg28 rfl f2 (by rfl)) ?_
    refine wl_p (fun _ => o_len (t := 28) Tryz.underlying28 rfl) ?_
    refine wl_p (fun _ => o_move rfl) ?_
    refine wl_p (fun _ => o_gt rfl rfl) ?_
    refine wl_p (fun _ => o_move rfl) ?_
    refine wl_know 11 false rfl (decide_eq_false (by omega)) ?_
    refine wl_p (fun _ => o_faddr (s := 31) (i := 1) (off := 1) Tryz.underlying31 rfl Tryz.sizeOf29 rfl rfl rfl) ?_
    refine wl_r (o_loadbg Tryz.isAgg29 rfl f2 (by rfl)) ?_
    refine wl_p (fun _ => o_len (t := 29) Tryz.underlying29 rfl) ?_
    refine wl_p (fun _ => o_gt rfl rfl) ?_
    refine wl_p (fun _ => o_pick_f rfl rfl) ?_
    refine wl_p (fun _ => o_move rfl) ?_
    refine wl_know 17 false rfl (decide_eq_false (by omega)) ?_
    refine wl_p (fun _ => o_faddr (s := 31) (i := 2) (off := 2) Tryz.underlying31 rfl Tryz.sizeOf29 rfl rfl rfl) ?_
    refine wl_r (o_loadbg Tryz.isAgg29 rfl f2 (by rfl)) ?_
    refine wl_p (fun _ => o_len (t := 29) Tryz.underlying29 rfl) ?_
    refine wl_p (fun _ => o_gt rfl rfl) ?_
    refine wl_p (fun _ => o_pick_f rfl rfl) ?_
    refine wl_nil ?_
    refine rk_if rfl (fun h22 => ?_) (fun h22 => h22.elim (by omega))
    refine rk_seq ?_
    refine rk_region ?_
    refine wl_p (fun _ => o_assign rfl) ?_
    refine wl_nil ?_
    refine ret1 rfl rfl ?_
    exact ⟨false, rfl, ⟨fun h => (by cases h), fun h => by have := h.2.2.1; omega⟩, hw⟩
  refine rk_seq ?_
  refine rk_region ?_
  refine wl_boxg [_, _, _] rfl (by rfl) ?_
  rintro g2 w2 f2 b2 i2 i2_1
  have s2 := b2.size
  replace hw := hw.trans (b2.mono hw.size)
  refine wl_p (fun _ => o_assign rfl) ?_
  refine wl_nil ?_
  refine rk_seq ?_
  refine rk_seq ?_
  refine rk_region ?_
  refine wl_p (fun _ => o_faddr (s := 31) (i := 0) (off := 0) Tryz.underlying31 rfl Tryz.sizeOf28 rfl rfl rfl) ?_
  refine wl_r (o_loadbg Tryz.isAgg28 rfl f2 (by rfl)) ?_
  refine wl_p (fun _ => o_len (t := 28) Tryz.underlying28 rfl) ?_
  refine wl_p (fun _ => o_move rfl) ?_
  refine wl_p (fun _ => o_gt rfl rfl) ?_
  refine wl_p (fun _ => o_move rfl) ?_
  refine wl_know 11 false rfl (decide_eq_false (by omega)) ?_
  refine wl_p (fun _ => o_faddr (s := 31) (i := 1) (off := 1) Tryz.underlying31 rfl Tryz.sizeOf29 rfl rfl rfl) ?_
  refine wl_r (o_loadbg Tryz.isAgg29 rfl f2 (by rfl)) ?_
  refine wl_p (fun _ => o_len (t := 29) Tryz.underlying29 rfl) ?_
  refine wl_p (fun _ => o_gt rfl rfl) ?_
  refine wl_p (fun _ => o_pick_f rfl rfl) ?_
  refine wl_p (fun _ => o_move rfl) ?_
  refine wl_know 17 false rfl (decide_eq_false (by omega)) ?_
  refine wl_p (fun _ => o_faddr (s := 31) (i := 2) (off := 2) Tryz.underlying31 rfl Tryz.sizeOf29 rfl rfl rfl) ?_
  refine wl_r (o_loadbg Tryz.isAgg29 rfl f2 (by rfl)) ?_
  refine wl_p (fun _ => o_len (t := 29) Tryz.underlying29 rfl) ?_
  refine wl_p (fun _ => o_gt rfl rfl) ?_
  refine wl_p (fun _ => o_pick_f rfl rfl) ?_
  refine wl_nil ?_
  refine rk_if rfl (fun h22 => absurd h22 (by omega)) (fun h22 => ?_)
  refine rk_skip ?_
  refine rk_seq ?_
  refine rk_seq ?_
  refine rk_region ?_
  refine wl_p (fun _ => o_assign rfl) ?_
  refine wl_nil ?_
  refine rk_block ?_
  refine rk_joinf (fun fb fr w3 => fr = [] ++ fb.drop 1 ∧ (∀ j (h : j < I.length), I[j].1.length ≤ 300 ∧ I[j].2.length ≤ 300) ∧ Below w.heap.size w w3) ?_ (fun ks hj => ?_)
  rotate_left
  · refine rk_loopf (fun fb k fr w3 => ∃ (i : Nat) (v : Int), fr = [(5, .int .i64 v)] ++ fb.drop 1 ∧ v = i ∧ i ≤ I.length ∧ k = I.length - i ∧ (∀ j (h : j < I.length), j < i → I[j].1.length ≤ 300 ∧ I[j].2.length ≤ 300) ∧ Blk w3 g2 31 [.slice A I.length c, .slice B X.length d, .slice C Y.length e] ∧ Below w.heap.size w w3) (n := I.length) (Fr.le_of (by kernel_rfl) (by kernel_rfl) (by repeat' constructor)) ⟨0, _, rfl, rfl, by omega, rfl, fun j _ h => absurd h (Nat.not_lt_zero _), f2, hw⟩ ?_
    clear hw f2
    rintro k fr w3 ⟨i, v, rfl, rfl, hi, rfl, hok, f2, hw⟩
    have shw := hw.size
    first | refine rk_frame (by simp only [List.cons_append, List.nil_append, List.drop_succ_cons, List.drop_zero]; rfl) ?_ | refine wl_frame (by simp only [List.cons_append, List.nil_append, List.drop_succ_cons, List.drop_zero]; rfl) ?_
    refine rk_seq ?_
    refine rk_seq ?_
    refine rk_region ?_
    refine wl_p (fun _ => o_move rfl) ?_
    refine wl_p (fun _ => o_faddr (s := 31) (i := 0) (off := 0) Tryz.underlying31 rfl Tryz.sizeOf28 rfl rfl rfl) ?_
    refine wl_r (o_loadbg Tryz.isAgg28 rfl f2 (by rfl)) ?_
    refine wl_p (fun _ => o_len (t := 28) Tryz.underlying28 rfl) ?_
    refine wl_p (fun _ => o_lt rfl rfl) ?_
    refine wl_nil ?_
    refine rk_if rfl (fun h27 => ?_) (fun h27 => ?_)
    · have hil : i < I.length := by omega
      by_cases k1 : 300 < I[i].1.length
      · refine rk_skip ?_
        refine rk_seq ?_
        refine rk_block ?_
        refine rk_seq ?_
        refine rk_region ?_
        refine wl_p (fun _ => o_faddr (s := 31) (i := 0) (off := 0) Tryz.underlying31 rfl Tryz.sizeOf28 rfl rfl rfl) ?_
        refine wl_r (o_loadbg Tryz.isAgg28 rfl f2 (by rfl)) ?_
        refine wl_p (fun _ => o_move rfl) ?_
        refine wl_p (fun _ => (o_iaddrA (i) Tryz.underlying28 Tryz.sizeOf94 rfl rfl rfl (hA.some_ (by omega)) (by omega))) ?_
        refine wl_p (fun _ => (o_faddrR rfl Tryz.underlying94 (by rfl) Tryz.sizeOf39 (by rfl) (by rfl))) ?_
        refine wl_ldKey rfl hA hw (by omega) ?_
        rintro A135 c135 f35 i35
        refine wl_p (fun _ => o_len (t := 39) Tryz.underlying39 rfl) ?_
        refine wl_p (fun _ => o_gt rfl rfl) ?_
        refine wl_p (fun _ => o_move rfl) ?_
        refine wl_know 38 true rfl (decide_eq_true (by omega)) ?_
        refine wl_off ?_
        refine wl_off ?_
        refine wl_off ?_
        refine wl_off ?_
        refine wl_off ?_
        refine wl_off ?_
        refine wl_off ?_
        refine wl_off ?_
        refine wl_p (fun _ => o_pick_t rfl rfl) ?_
        refine wl_nil ?_
        refine rk_true rfl ?_
        refine rk_seq ?_
        refine rk_region ?_
        refine wl_p (fun _ => o_assign rfl) ?_
        refine wl_nil ?_
        refine ret1 rfl rfl ?_
        exact ⟨false, rfl, ⟨fun h => (by cases h), fun h => by have := (h.2.2.2 _ (List.getElem_mem hil)).1; omega⟩, hw⟩
      · by_cases k2 : 300 < I[i].2.length
        · refine rk_skip ?_
          refine rk_seq ?_
          refine rk_block ?_
          refine rk_seq ?_
          refine rk_region ?_
          refine wl_p (fun _ => o_faddr (s := 31) (i := 0) (off := 0) Tryz.underlying31 rfl Tryz.sizeOf28 rfl rfl rfl) ?_
          refine wl_r (o_loadbg Tryz.isAgg28 rfl f2 (by rfl)) ?_
          refine wl_p (fun _ => o_move rfl) ?_
          refine wl_p (fun _ => (o_iaddrA (i) Tryz.underlying28 Tryz.sizeOf94 rfl rfl rfl (hA.some_ (by omega)) (by omega))) ?_
          refine wl_p (fun _ => (o_faddrR rfl Tryz.underlying94 (by rfl) Tryz.sizeOf39 (by rfl) (by rfl))) ?_
          refine wl_ldKey rfl hA hw (by omega) ?_
          rintro A135 c135 f35 i35
          refine wl_p (fun _ => o_len (t := 39) Tryz.underlying39 rfl) ?_
          refine wl_p (fun _ => o_gt rfl rfl) ?_
          refine wl_p (fun _ => o_move rfl) ?_
          refine wl_know 38 false rfl (decide_eq_false (by omega)) ?_
          refine wl_p (fun _ => o_faddr (s := 31) (i := 0) (off := 0) Tryz.underlying31 rfl Tryz.sizeOf28 rfl rfl rfl) ?_
          refine wl_r (o_loadbg Tryz.isAgg28 rfl f2 (by rfl)) ?_
          refine wl_p (fun _ => o_move rfl) ?_
          refine wl_p (fun _ => (o_iaddrA (i) Tryz.underlying28 Tryz.sizeOf94 rfl rfl rfl (hA.some_ (by omega)) (by omega))) ?_
          refine wl_p (fun _ => (o_faddrR rfl Tryz.underlying94 (by rfl) Tryz.sizeOf39 (by rfl) (by rfl))) ?_
          refine wl_ldVal rfl hA hw (by omega) ?_
          rintro A144 c144 f44 i44
          refine wl_p (fun _ => o_len (t := 39) Tryz.underlying39 rfl) ?_
          refine wl_p (fun _ => o_gt rfl rfl) ?_
          refine wl_p (fun _ => o_pick_f rfl rfl) ?_
          refine wl_nil ?_
          refine rk_if rfl (fun h47 => ?_) (fun h47 => h47.elim (by omega))
          refine rk_seq ?_
          refine rk_region ?_
          refine wl_p (fun _ => o_assign rfl) ?_
          refine wl_nil ?_
          refine ret1 rfl rfl ?_
          exact ⟨false, rfl, ⟨fun h => (by cases h), fun h => by have := (h.2.2.2 _ (List.getElem_mem hil)).2; omega⟩, hw⟩
        · refine rk_skip ?_
          refine rk_seq ?_
          refine rk_block ?_
          refine rk_seq ?_
          refine rk_region ?_
          refine wl_p (fun _ => o_faddr (s := 31) (i := 0) (off := 0) Tryz.underlying31 rfl Tryz.sizeOf28 rfl rfl rfl) ?_
          refine wl_r (o_loadbg Tryz.isAgg28 rfl f2 (by rfl)) ?_
          refine wl_p (fun _ => o_move rfl) ?_
          refine wl_p (fun _ => (o_iaddrA (i) Tryz.underlying28 Tryz.sizeOf94 rfl rfl rfl (hA.some_ (by omega)) (by omega))) ?_
          refine wl_p (fun _ => (o_faddrR rfl Tryz.underlying94 (by rfl) Tryz.sizeOf39 (by rfl) (by rfl))) ?_
          refine wl_ldKey rfl hA hw (by omega) ?_
          rintro A135 c135 f35 i35
          refine wl_p (fun _ => o_len (t := 39) Tryz.underlying39 rfl) ?_
          refine wl_p (fun _ => o_gt rfl rfl) ?_
          refine wl_p (fun _ => o_move rfl) ?_
          refine wl_know 38 false rfl (decide_eq_false (by omega)) ?_
          refine wl_p (fun _ => o_faddr (s := 31) (i := 0) (off := 0) Tryz.underlying31 rfl Tryz.sizeOf28 rfl rfl rfl) ?_
          refine wl_r (o_loadbg Tryz.isAgg28 rfl f2 (by rfl)) ?_
          refine wl_p (fun _ => o_move rfl) ?_
          refine wl_p (fun _ => (o_iaddrA (i) Tryz.underlying28 Tryz.sizeOf94 rfl rfl rfl (hA.some_ (by omega)) (by omega))) ?_
          refine wl_p (fun _ => (o_faddrR rfl Tryz.underlying94 (by rfl) Tryz.sizeOf39 (by rfl) (by rfl))) ?_
          refine wl_ldVal rfl hA hw (by omega) ?_
          rintro A144 c144 f44 i44
          refine wl_p (fun _ => o_len (t := 39) Tryz.underlying39 rfl) ?_
          refine wl_p (fun _ => o_gt rfl rfl) ?_
          refine wl_p (fun _ => o_pick_f rfl rfl) ?_
          refine wl_nil ?_
          refine rk_if rfl (fun h47 => absurd h47 (by omega)) (fun h47 => ?_)
          refine rk_skip ?_
          refine rk_blk ?_
          refine rk_region ?_
          refine wl_p (fun _ => o_move rfl) ?_
          refine wl_p (fun _ => o_add rfl rfl (by omega) (by omega)) ?_
          refine wl_p (fun _ => o_assign rfl) ?_
          refine wl_nil ?_
          exact rk_againf (Fr.le_of (by kernel_rfl) (by kernel_rfl) (by repeat' constructor)) ⟨i + 1, (i : Int) + 1, rfl, by omega, by omega, rfl, fun j hj hji => by
            rcases Nat.lt_or_ge j i with h | h
            · exact hok j hj h
            · obtain rfl : j = i := by omega
              exact ⟨by omega, by omega⟩, f2, hw⟩ (by omega)
    · refine rk_exit rfl ?_
      exact rk_tof hj (Fr.le_of (by kernel_rfl) (by kernel_rfl) (by repeat' constructor)) ⟨rfl, fun j h => hok j h (by omega), hw⟩
  clear hw f2
  rintro fr w3 ⟨rfl, hok, hw⟩
  first | refine rk_frame (by simp only [List.cons_append, List.nil_append, List.drop_succ_cons, List.drop_zero]; rfl) ?_ | refine wl_frame (by simp only [List.cons_append, List.nil_append, List.drop_succ_cons, List.drop_zero]; rfl) ?_
  refine rk_seq ?_
  refine rk_region ?_
  refine wl_p (fun _ => o_assign rfl) ?_
  refine wl_nil ?_
  refine ret1 rfl rfl ?_
  exact ⟨true, rfl, ⟨fun _ => ⟨by omega, by omega, by omega, fun o ho => by obtain ⟨j, hj, rfl⟩ := List.getElem_of_mem ho; exact hok j hj⟩, fun _ => rfl⟩, hw⟩
end Go.Proofs.YtahkeoegbjopfaaGreat
/-
  Blocks as they lie in memory.
-/
namespace Go.Proofs.YtahkeoegbjopfaaGreat
set_option maxRecDepth 100000
open Go.RowKit
abbrev Bk := Ky × By
structure BkS (M G : List Value) : Prop where
  m : M.length = 33
  g : G.length = 64
  m1 : ∀ v ∈ M, v.oneCell' = true
  g1 : ∀ v ∈ G, v.oneCell' = true
/-- The cells of a block without links. -/
def bkC (u : Ky) (M : List Value) (N : Option Addr) (nc : Nat) (D : Option Addr) (n c : Nat) (G : List Value) : List Value := B8 u.1 ++ (M ++ ([.slice N 0 nc, .slice D n c] ++ G))
section
variable {u : Ky} {M G : List Value} {N D : Option Addr} {nc n c : Nat}
theorem bkC_length (h : BkS M G) : (bkC u M N nc D n c G).length = 131 := by
  simp only [bkC, List.length_append, B8_length, u.2, h.m, h.g, List.length_cons, List.length_nil]
theorem bkC_one (h : BkS M G) : ∀ v ∈ bkC u M N nc D n c G, v.oneCell' = true := by
  intro v hv
  simp only [bkC, List.mem_append, List.mem_cons, List.not_mem_nil, or_false] at hv
  rcases hv with hv | hv | (rfl | rfl) | hv
  · exact B8_oneCell _ _ hv
  · exact h.m1 v hv
  · rfl
  · rfl
  · exact h.g1 v hv
theorem bkC_who : ((bkC u M N nc D n c G).drop (0 + 0)).take 32 = B8 u.1 := by
  show (B8 u.1 ++ _).take 32 = _
  rw [List.take_append_of_le_length (by rw [B8_length, u.2]; omega), List.take_of_length_le (by rw [B8_length, u.2]; omega)]
theorem bkC_lnk (h : BkS M G) : (bkC u M N nc D n c G)[0 + 65]? = some (.slice N 0 nc) := by
  unfold bkC
  rw [List.getElem?_append_right (by rw [B8_length, u.2]; omega), B8_length, u.2, List.getElem?_append_right (by rw [h.m]; omega), h.m]
  rfl
theorem bkC_dat (h : BkS M G) : (bkC u M N nc D n c G)[0 + 66]? = some (.slice D n c) := by
  unfold bkC
  rw [List.getElem?_append_right (by rw [B8_length, u.2]; omega), B8_length, u.2, List.getElem?_append_right (by rw [h.m]; omega), h.m]
  rfl
theorem set_mid {A B : List Value} {v x : Value} {i : Nat} (h : A.length = i) : (A ++ x :: B).set i v = A ++ v :: B := by
  subst h
  rw [List.set_append_right _ _ (Nat.le_refl _), Nat.sub_self]
  rfl
theorem bkC_setL (h : BkS M G) {N' : Option Addr} {nc' : Nat} : (bkC u M N nc D n c G).set (0 + 65) (.slice N' 0 nc') = bkC u M N' nc' D n c G := by
  have e : ∀ x : Value, B8 u.1 ++ (M ++ ([x, .slice D n c] ++ G)) = (B8 u.1 ++ M) ++ x :: ([.slice D n c] ++ G) := fun x => by simp
  unfold bkC
  rw [e, e]
  exact set_mid (by rw [List.length_append, B8_length, u.2, h.m])
theorem bkC_setD (h : BkS M G) {D' : Option Addr} {n' c' : Nat} : (bkC u M N nc D n c G).set (0 + 66) (.slice D' n' c') = bkC u M N nc D' n' c' G := by
  have e : ∀ x : Value, B8 u.1 ++ (M ++ ([.slice N 0 nc, x] ++ G)) = (B8 u.1 ++ M ++ [.slice N 0 nc]) ++ x :: G := fun x => by simp
  unfold bkC
  rw [e, e]
  exact set_mid (by rw [List.length_append, List.length_append, B8_length, u.2, h.m]; rfl)
end
def gBk : GoT Bk where
  sz := 131
  tys := [5]
  R w cs a := ∃ M N nc D c G, cs = bkC a.1 M N nc D a.2.length c G ∧ BkS M G ∧ Rd w D a.2 ∧ a.2.length ≤ c ∧ c ≤ maxLen
  T w cs a := ∃ M N nc D c G, cs = bkC a.1 M N nc D a.2.length c G ∧ BkS M G ∧ RdT w D a.2 ∧ a.2.length ≤ c ∧ c ≤ maxLen
  len h := by obtain ⟨M, N, nc, D, c, G, rfl, h, _⟩ := h; exact bkC_length h
  u h hb := by obtain ⟨M, N, nc, D, c, G, e, h0, h1, h2⟩ := h; exact ⟨M, N, nc, D, c, G, e, h0, h1.below hb, h2⟩
  tr h := by obtain ⟨M, N, nc, D, c, G, e, h0, h1, h2⟩ := h; exact ⟨M, N, nc, D, c, G, e, h0, h1.1, h2⟩
  tu h hb := by obtain ⟨M, N, nc, D, c, G, e, h0, h1, h2⟩ := h; exact ⟨M, N, nc, D, c, G, e, h0, h1.u hb, h2⟩
  ty h hg hne := by obtain ⟨M, N, nc, D, c, G, e, h0, h1, h2⟩ := h; exact ⟨M, N, nc, D, c, G, e, h0, h1.y hg (by simpa using hne), h2⟩
  tm h hg := by obtain ⟨M, N, nc, D, c, G, e, h0, h1, h2⟩ := h; exact ⟨M, N, nc, D, c, G, e, h0, h1.m hg, h2⟩
theorem gBk_one (w : World) (cs : List Value) (a : Bk) (h : gBk.T w cs a) : ∀ u ∈ cs, u.oneCell' = true := by
  obtain ⟨M, N, nc, D, c, G, rfl, h0, _⟩ := h
  exact bkC_one h0
def RBk (w : World) (A : Option Addr) (L : List Bk) : Prop := RSl gBk w A L
def RBT (w : World) (A : Option Addr) (L : List Bk) : Prop := RSlT gBk 49 w A L
def OwnB (w : World) (lo hi : Nat) (A : Option Addr) (c : Nat) (L : List Bk) : Prop := OwnS gBk 49 w lo hi A c L
section
variable {w w' : World} {lo hi lo' hi' cp b : Nat} {A : Option Addr} {L : List Bk} {e' : TypeId} {row : Option Nat}
theorem RBk.u (h : RBk w A L) (hb : Below w.heap.size w w') : RBk w' A L := RSl.u h hb
theorem RBk.d (h : RBk w A L) : RBk w.drew A L := RSl.u h (below_drew w)
theorem RBk.nil_ : RBk w none [] := RSl.nil _ _ _
theorem RBk.some_ (h : RBk w A L) (hl : 0 < L.length) : A = some (A.getD ⟨0, 0, none⟩) := RSl.some_ h (show 0 < 131 by decide) hl
theorem RBk.elem (h : RBk w A L) {i : Nat} (hi : i < L.length) : ∃ M N nc D c G, CellsAt w A (i * 131) (bkC L[i].1 M N nc D L[i].2.length c G) ∧ BkS M G ∧ Rd w D L[i].2 ∧ L[i].2.length ≤ c ∧ c ≤ maxLen := by
  obtain ⟨cs, h1, M, N, nc, D, c, G, rfl, h2⟩ := RSl.elem h (show 0 < 131 by decide) hi
  exact ⟨M, N, nc, D, c, G, h1, h2⟩
theorem RBT.u (h : RBT w A L) (hb : Below w.heap.size w w') : RBT w' A L := RSlT.u h hb
theorem RBT.d (h : RBT w A L) : RBT w.drew A L := RSlT.d h
theorem RBT.y (h : RBT w A L) (hg : Grew w w' e' row) (hne : e' ∉ 49 :: gBk.tys) : RBT w' A L := RSlT.y h hg hne
theorem RBT.nil_ : RBT w none [] := RSlT.nil_
theorem RBT.to_RBk (h : RBT w A L) : RBk w A L := RSlT.to_RSl h
theorem OwnB.u (h : OwnB w lo hi A cp L) (hb : Below w.heap.size w w') : OwnB w' lo hi A cp L := OwnS.u h hb
theorem OwnB.d (h : OwnB w lo hi A cp L) : OwnB w.drew lo hi A cp L := OwnS.d h
theorem OwnB.y (h : OwnB w lo hi A cp L) (hg : Grew w w' e' row) (hne : e' ∉ 49 :: gBk.tys) : OwnB w' lo hi A cp L := OwnS.y h hg hne
theorem OwnB.q (h : OwnB w lo hi A cp L) (hg : Grew w w' e' row) (ha : Ap row lo hi) (hne : e' ∉ gBk.tys) : OwnB w' lo hi A cp L := OwnS.q h hg ha hne
theorem OwnB.ap (h : OwnB w lo hi A cp L) (hd : hi ≤ lo' ∨ hi' ≤ lo) : Ap (blk A) lo' hi' := OwnS.ap h hd
theorem OwnB.cap (h : OwnB w lo hi A cp L) : L.length ≤ cp := OwnS.cap h
theorem OwnB.nil_ : OwnB w lo hi none 0 [] := OwnS.nil_
theorem OwnB.base (h : OwnB w lo hi A cp L) (h1 : lo' ≤ lo) (h2 : hi ≤ hi') : OwnB w lo' hi' A cp L := OwnS.base h h1 h2
theorem OwnB.to_RBT (h : OwnB w lo hi A cp L) : RBT w A L := OwnS.to_RSlT h
theorem OwnB.to_RBk (h : OwnB w lo hi A cp L) : RBk w A L := OwnS.to_RSl h
theorem OwnB.takeT (h : OwnB w lo hi A cp L) {k : Nat} (hk : k ≤ L.length) : RBT w A (L.take k) := OwnS.to_RSlT (OwnS.take h k hk)
theorem OwnB.dropT (h : OwnB w lo hi A cp L) {k : Nat} (hk : k ≤ L.length) : RBT w (cutA A cp 131 k) (L.drop k) := OwnS.drop h k hk
end
def bkM : List Value := .int .u64 0 :: B8 (List.replicate 32 0)
def bkG : List Value := B8 (List.replicate 64 0)
theorem bkS0 : BkS bkM bkG := ⟨rfl, rfl, by decide, by decide⟩
--@ side bkS0
theorem Tryz.rowBk : RowT Tryz.prog 25 49 (.agg (bkC z32 bkM none 0 none 0 0 bkG).toArray) 131 184 := ⟨Tryz.underlying25, by kernel_rfl, rfl, by omega⟩
section
variable {fn : Func} {F : Ending → World → Prop} {N : Nat} {ks : List K} {ops : Array Oper} {tg : Tags} {l : List Oper} {fr : Fr} {w w0 : World} {ty t' : TypeId} {pos : String} {aft : Array Edge} {gd : Option (Nat × Bool)} {d0 n j o q c nc lo hi g : Nat} {x y : Operand} {A B D L' : Option Addr} {L P : List Bk} {u u' : Ky} {M G M' G' : List Value}
--@ rule load l wl_ldBk
theorem wl_ldBk (hx : fr.ev x = some (.pointer (some (adr A (j * 131))))) (hr : RBk w0 A L) (hb : Below w0.heap.size w0 w) (hj : j < L.length)
    (hk : ∀ M N' nc D c G, BkS M G → Rd w0 D L[j].2 → L[j].2.length ≤ c → c ≤ maxLen → WL Tryz.prog fn F N ks ops tg.tail l ((d0, .agg (bkC L[j].1 M N' nc D L[j].2.length c G).toArray) :: fr) w)
    (ht : tg.reads = true := by rfl) (hg : onG ops fr gd = true := by rfl) (hd : Nat.blt d0 N = true := by rfl) : WL Tryz.prog fn F N ks ops tg (⟨some d0, .load 49 x, ty, pos, aft, gd⟩ :: l) fr w := by
  obtain ⟨M, N', nc, D, c, G, h1, h0, h2, h3, h4⟩ := hr.elem hj
  refine wl_r (o_loadn (cs := bkC L[j].1 M N' nc D L[j].2.length c G) Tryz.isAgg49 (by rw [bkC_length h0]; exact Tryz.sizeOf49) hx (fun i u hu => ?_)) (hk M N' nc D c G h0 h2 h3 h4) ht hg hd
  rw [adr_add]
  exact h1.u hb i u hu
--@ rule load l wl_ldBkD
theorem wl_ldBkD (hx : fr.ev x = some (.pointer (some (adr A (j * 131 + o))))) (ho : o = 66) (hr : RBk w0 A L) (hb : Below w0.heap.size w0 w) (hj : j < L.length)
    (hk : ∀ D c, Rd w0 D L[j].2 → L[j].2.length ≤ c → WL Tryz.prog fn F N ks ops tg.tail l ((d0, .slice D L[j].2.length c) :: fr) w)
    (ht : tg.reads = true := by rfl) (hg : onG ops fr gd = true := by rfl) (hd : Nat.blt d0 N = true := by rfl) : WL Tryz.prog fn F N ks ops tg (⟨some d0, .load 39 x, ty, pos, aft, gd⟩ :: l) fr w := by
  subst ho
  obtain ⟨M, N', nc, D, c, G, h1, h0, h2, h3, h4⟩ := hr.elem hj
  exact wl_r (o_load (t := 39) Tryz.isAgg39 hx (h1.u hb 66 _ (by have := bkC_dat (u := L[j].1) (N := N') (D := D) (nc := nc) (n := L[j].2.length) (c := c) h0; simpa using this))) (hk D c h2 h3) ht hg hd
--@ rule load r o_ldBkU
theorem o_ldBkU (hx : fr.ev x = some (.pointer (some (adr A (j * 131 + o))))) (ho : o = 0) (hr : RBk w0 A L) (hb : Below w0.heap.size w0 w) (hj : j < L.length) : OpV Tryz.prog N fr w (.load 42 x) ty (.agg (B8 L[j].1.1).toArray) w := by
  subst ho
  obtain ⟨M, N', nc, D, c, G, h1, h0, h2, h3, h4⟩ := hr.elem hj
  refine o_loadn (cs := B8 L[j].1.1) Tryz.isAgg42 (by rw [B8_length, L[j].1.2]; exact Tryz.sizeOf42) hx (fun i u hu => ?_)
  rw [adr_add, Nat.add_zero]
  refine h1.u hb i u ?_
  unfold bkC
  rw [List.getElem?_append_left (by have := (List.getElem?_eq_some_iff.1 hu).1; exact this)]
  exact hu
--@ rule! alloc l wl_allocBk
theorem wl_allocBk (hk : ∀ g w', Blk w' g 49 (bkC z32 bkM none 0 none 0 0 bkG) → Below w.heap.size w w' → w.heap.size ≤ g → g < w'.heap.size → WL Tryz.prog fn F N ks ops tg.tail l ((d0, .pointer (some ⟨g, 0, none⟩)) :: fr) w')
    (ht : tg.loud = true := by rfl) (hg : onG ops fr gd = true := by rfl) (hd : Nat.blt d0 N = true := by rfl) : WL Tryz.prog fn F N ks ops tg (⟨some d0, .alloc 49, ty, pos, aft, gd⟩ :: l) fr w :=
  wl_allocg _ Tryz.zeroValue49 rfl hk ht hg hd
--@ rule! store l wl_stBkB
theorem wl_stBkB {D' N1 N2 : Option Addr} {n' c' nc' : Nat} (hx : fr.ev x = some (.pointer (some ⟨g, 0, none⟩))) (hB : Blk w g t' (bkC u' M' N2 nc' D' n' c' G')) (hS' : BkS M' G') (hy : fr.ev y = some (.agg (bkC u M N1 nc D n c G).toArray)) (hS : BkS M G)
    (hk : ∀ w', Blk w' g t' (bkC u M N1 nc D n c G) → Grew w w' t' (some g) → w'.heap.size = w.heap.size → WL Tryz.prog fn F N ks ops tg.tail l fr w') (ht : tg.loud = true := by rfl) (hg : onG ops fr gd = true := by rfl) (hq : tg.calm = false ∨ tg.rw.may (some g) := by exact .inl rfl) :
    WL Tryz.prog fn F N ks ops tg (⟨none, .store 49 x y, ty, pos, aft, gd⟩ :: l) fr w :=
  wl_storega Tryz.sizeOf49 hx hy (bkC_length hS) (bkC_one hS) hB (bkC_length hS') hk ht hg hq
--@ rule! load r o_ldBkA
theorem o_ldBkA {N1 : Option Addr} (hx : fr.ev x = some (.pointer (some ⟨g, 0, none⟩))) (hB : Blk w g t' (bkC u M N1 nc D n c G)) (hS : BkS M G) : OpV Tryz.prog N fr w (.load 49 x) ty (.agg (bkC u M N1 nc D n c G).toArray) w :=
  o_loadag Tryz.isAgg49 Tryz.sizeOf49 hx hB (bkC_length hS)
--@ rule! load r o_ldBkW
theorem o_ldBkW {N1 : Option Addr} (hx : fr.ev x = some (.pointer (some ⟨g, 0 + 0, none⟩))) (hB : Blk w g t' (bkC u M N1 nc D n c G)) : OpV Tryz.prog N fr w (.load 42 x) ty (.agg (B8 u.1).toArray) w :=
  o_loadCut Tryz.isAgg42 Tryz.sizeOf42 hx hB bkC_who (by rw [B8_length, u.2])
--@ rule! load r o_ldBkDt
theorem o_ldBkDt {N1 : Option Addr} (hx : fr.ev x = some (.pointer (some ⟨g, 0 + 66, none⟩))) (hB : Blk w g t' (bkC u M N1 nc D n c G)) (hS : BkS M G) : OpV Tryz.prog N fr w (.load 39 x) ty (.slice D n c) w :=
  o_loadbg Tryz.isAgg39 hx hB (bkC_dat hS)
--@ rule! load r o_ldBkL
theorem o_ldBkL {N1 : Option Addr} (hx : fr.ev x = some (.pointer (some ⟨g, 0 + 65, none⟩))) (hB : Blk w g t' (bkC u M N1 nc D n c G)) (hS : BkS M G) : OpV Tryz.prog N fr w (.load 45 x) ty (.slice N1 0 nc) w :=
  o_loadbg Tryz.isAgg45 hx hB (bkC_lnk hS)
--@ rule! store l wl_stBkL
theorem wl_stBkL {N1 N2 : Option Addr} {nc' : Nat} (hx : fr.ev x = some (.pointer (some ⟨g, 0 + 65, none⟩))) (hB : Blk w g t' (bkC u M N1 nc' D n c G)) (hy : fr.ev y = some (.slice N2 0 nc)) (hS : BkS M G)
    (hk : ∀ w', Blk w' g t' (bkC u M N2 nc D n c G) → Grew w w' t' (some g) → w'.heap.size = w.heap.size → WL Tryz.prog fn F N ks ops tg.tail l fr w') (ht : tg.loud = true := by rfl) (hg : onG ops fr gd = true := by rfl) (hq : tg.calm = false ∨ tg.rw.may (some g) := by exact .inl rfl) :
    WL Tryz.prog fn F N ks ops tg (⟨none, .store 45 x y, ty, pos, aft, gd⟩ :: l) fr w :=
  wl_storeg1 Tryz.sizeOf45 hx hy rfl hB (by rw [bkC_length hS]; omega) (fun w' h1 h2 h3 => hk w' (by rwa [bkC_setL hS] at h1) h2 h3) ht hg hq
--@ rule! store l wl_stBkD
theorem wl_stBkD {N1 D' : Option Addr} {n' c' : Nat} (hx : fr.ev x = some (.pointer (some ⟨g, 0 + 66, none⟩))) (hB : Blk w g t' (bkC u M N1 nc D' n' c' G)) (hy : fr.ev y = some (.slice D n c)) (hS : BkS M G)
    (hk : ∀ w', Blk w' g t' (bkC u M N1 nc D n c G) → Grew w w' t' (some g) → w'.heap.size = w.heap.size → WL Tryz.prog fn F N ks ops tg.tail l fr w') (ht : tg.loud = true := by rfl) (hg : onG ops fr gd = true := by rfl) (hq : tg.calm = false ∨ tg.rw.may (some g) := by exact .inl rfl) :
    WL Tryz.prog fn F N ks ops tg (⟨none, .store 39 x y, ty, pos, aft, gd⟩ :: l) fr w :=
  wl_storeg1 Tryz.sizeOf39 hx hy rfl hB (by rw [bkC_length hS]; omega) (fun w' h1 h2 h3 => hk w' (by rwa [bkC_setD hS] at h1) h2 h3) ht hg hq
--@ rule! build p o_bldBk
theorem o_bldBk (hx : fr.ev x = some (.agg (B8 u.1).toArray)) (hy : fr.ev y = some (.slice D n c)) : OpV Tryz.prog N fr w (.build 49 #[(0, x), (4, y)]) ty (.agg (bkC u bkM none 0 D n c bkG).toArray) w :=
  o_build (is := [0, 4]) (xs := [x, y]) (vs := [.agg (B8 u.1).toArray, .slice D n c]) (by simp [Fr.evs, hx, hy]) (fun w => ky_cases u (fun u => (Instr.build 49 ([0, 4].zip [.agg (B8 u.1).toArray, .slice D n c]).toArray).run Tryz.prog w = .ok (.agg (bkC u bkM none 0 D n c bkG).toArray) w) (by intros; kernel_rfl))
--@ rule buildSlice l wl_litBk1
theorem wl_litBk1 {ps : Array (Nat × Operand)} {xs : List Operand} {p : By} {N1 : Option Addr} (hxs : ps.toList.map Prod.snd = xs) (hx : fr.evs xs = some [.agg (bkC u M N1 nc D n c G).toArray]) (hS : BkS M G) (h1 : RdT w D p) (hn : n = p.length) (h2 : p.length ≤ c) (h3 : c ≤ maxLen) (hps : ps = ((List.range' 0 1).zip xs).toArray)
    (hk : ∀ A w', OwnB w' w.heap.size w'.heap.size A 1 [(u, p)] → Below w.heap.size w w' → WL Tryz.prog fn F N ks ops tg.tail l ((d0, .slice A 1 1) :: fr) w')
    (ht : tg.loud = true := by rfl) (hg : onG ops fr gd = true := by rfl) (hd : Nat.blt d0 N = true := by rfl) : WL Tryz.prog fn F N ks ops tg (⟨some d0, .buildSlice 25 1 ps, ty, pos, aft, gd⟩ :: l) fr w := by
  subst hn
  refine wl_litS (X := gBk) (L := [(u, p)]) Tryz.rowBk Tryz.sizeOf49 Tryz.zeroValue49 hxs hps hx rfl rfl (fun i h => ?_) rfl hk ht hg hd
  obtain rfl : i = 0 := by simp at h; omega
  exact ⟨_, rfl, by show (bkC u M N1 nc D p.length c G).toArray.size = 131; rw [List.size_toArray, bkC_length hS], M, N1, nc, D, c, G, rfl, hS, h1, h2, h3⟩
--@ rule buildSlice l wl_litBk1r
theorem wl_litBk1r {ps : Array (Nat × Operand)} {xs : List Operand} {p : By} {N1 : Option Addr} (hxs : ps.toList.map Prod.snd = xs) (hx : fr.evs xs = some [.agg (bkC u M N1 nc D n c G).toArray]) (hS : BkS M G) (h1 : Rd w0 D p) (hb : Below w0.heap.size w0 w) (hn : n = p.length) (h2 : p.length ≤ c) (h3 : c ≤ maxLen) (hps : ps = ((List.range' 0 1).zip xs).toArray)
    (hk : ∀ A w', RBk w' A [(u, p)] → Below w.heap.size w w' → WL Tryz.prog fn F N ks ops tg.tail l ((d0, .slice A 1 1) :: fr) w')
    (ht : tg.loud = true := by rfl) (hg : onG ops fr gd = true := by rfl) (hd : Nat.blt d0 N = true := by rfl) : WL Tryz.prog fn F N ks ops tg (⟨some d0, .buildSlice 25 1 ps, ty, pos, aft, gd⟩ :: l) fr w := by
  subst hn
  refine wl_litRS (X := gBk) (L := [(u, p)]) Tryz.rowBk Tryz.sizeOf49 Tryz.zeroValue49 hxs hps hx rfl rfl (fun i h => ?_) rfl hk ht hg hd
  obtain rfl : i = 0 := by simp at h; omega
  exact ⟨_, rfl, by show (bkC u M N1 nc D p.length c G).toArray.size = 131; rw [List.size_toArray, bkC_length hS], M, N1, nc, D, c, G, rfl, hS, h1.below hb, h2, h3⟩
--@ rule append l wl_appBk
theorem wl_appBk (hx : fr.ev x = some (.slice A n c)) (hown : OwnB w lo hi A c L) (hn : n = L.length) (hy : fr.ev y = some (.slice B j q)) (hr : RBT w B P) (hj : j = P.length) (hlen : L.length + P.length ≤ 100000) (hB : lo ≤ w.heap.size)
    (h : ∀ A' c' w', OwnB w' lo w'.heap.size A' c' (L ++ P) → Grew w w' 49 (blk A) → Below lo w w' → WL Tryz.prog fn F N ks ops tg.tail l ((d0, .slice A' (L ++ P).length c') :: fr) w')
    (ht : tg.loud = true := by rfl) (hg : onG ops fr gd = true := by rfl) (hd : Nat.blt d0 N = true := by rfl) (hq : tg.calm = false ∨ blk A = none ∨ blk A = tg.row := by exact .inl rfl) :
    WL Tryz.prog fn F N ks ops tg (⟨some d0, .call { callee := .builtin .append, args := #[x, y], argTypes := #[25, 25] }, ty, pos, aft, gd⟩ :: l) fr w :=
  wl_appS (X := gBk) Tryz.rowBk hx hown hn hy hr hj (by simp [gBk]) gBk_one (by have := Nat.mul_le_mul_right 184 hlen; omega) (by omega) hB (fun A' c' w' h1 h2 h3 _ => h A' c' w' h1 h2 h3) ht hg hd hq
end
end Go.Proofs.YtahkeoegbjopfaaGreat
/-
  Walks of the kit's functions: blocks copied.
-/
namespace Go.Proofs.YtahkeoegbjopfaaGreat
set_option maxRecDepth 100000
open Go.RowKit
def OwnD0 (w : World) (lo hi : Nat) (A : Option Addr) : Prop := RowH w lo hi 44 32 A 0 0 []
theorem OwnD0.u {w w' : World} {lo hi : Nat} {A : Option Addr} (h : OwnD0 w lo hi A) (hb : Below w.heap.size w w') : OwnD0 w' lo hi A := RowH.u h hb
theorem Tryz.rowDg : RowT Tryz.prog 45 44 (.agg (B8 z32.1).toArray) 32 32 := ⟨Tryz.underlying45, by kernel_rfl, rfl, by omega⟩
section
variable {fn : Func} {F : Ending → World → Prop} {N : Nat} {ks : List K} {ops : Array Oper} {tg : Tags} {l : List Oper} {fr : Fr} {w w0 : World} {ty t' : TypeId} {pos : String} {aft : Array Edge} {gd : Option (Nat × Bool)} {d n j q c lo hi : Nat} {x y : Operand} {A B : Option Addr}
--@ rule buildSlice l wl_litDg0
theorem wl_litDg0 {ps : Array (Nat × Operand)} {xs : List Operand} (hxs : ps.toList.map Prod.snd = xs) (hx : fr.evs xs = some []) (hps : ps = ((List.range' 0 0).zip xs).toArray)
    (hk : ∀ A w', OwnD0 w' w.heap.size w'.heap.size A → Below w.heap.size w w' → WL Tryz.prog fn F N ks ops tg.tail l ((d, .slice A 0 0) :: fr) w')
    (ht : tg.loud = true := by rfl) (hg : onG ops fr gd = true := by rfl) (hd : Nat.blt d N = true := by rfl) : WL Tryz.prog fn F N ks ops tg (⟨some d, .buildSlice 45 0 ps, ty, pos, aft, gd⟩ :: l) fr w :=
  wl_litR Tryz.rowDg Tryz.sizeOf44 Tryz.zeroValue44 hxs hps hx rfl (fun v h => by cases h) rfl hk ht hg hd
--@ rule append l wl_appDg0
theorem wl_appDg0 (hx : fr.ev x = some (.slice A 0 0)) (hown : OwnD0 w lo hi A) (hy : fr.ev y = some (.slice B 0 q)) (hB : lo ≤ w.heap.size)
    (h : ∀ A' c' w', Below w.heap.size w w' → WL Tryz.prog fn F N ks ops tg.tail l ((d, .slice A' 0 c') :: fr) w')
    (ht : tg.loud = true := by rfl) (hg : onG ops fr gd = true := by rfl) (hd : Nat.blt d N = true := by rfl) :
    WL Tryz.prog fn F N ks ops tg (⟨some d, .call { callee := .builtin .append, args := #[x, y], argTypes := #[45, 45] }, ty, pos, aft, gd⟩ :: l) fr w :=
  wl_appR0 Tryz.rowDg hx hown hy (Reads.none_ _ _ _) (fun u hu => by cases hu) (by omega) (by omega) hB (fun A' c' w' _ k2 => h A' c' w' k2) ht hg hd
end
theorem C_kNames0 {A : Option Addr} {c : Nat} (w : World) :
    CallsR Tryz.prog 50 [.slice A 0 c] w fun v w' => ∃ A' c', v = .slice A' 0 c' ∧ Below w.heap.size w w' := by
  refine callsR Tryz.func50 rfl rfl (by kernel_rfl) rfl ?_
  have hw := Below.refl w.heap.size w
  refine rk_seq ?_
  refine rk_region ?_
  refine wl_p (fun _ => o_assign rfl) ?_
  refine wl_nil ?_
  refine rk_seq ?_
  refine rk_region ?_
  refine wl_litDg0 (by rfl) rfl (by rfl) ?_
  rintro A3 w3 f3 b3
  have s3 := b3.size
  replace hw := hw.trans (b3.mono hw.size)
  refine wl_p (fun _ => o_move rfl) ?_
  refine wl_appDg0 rfl f3 rfl hw.size ?_
  rintro A5 c5 w5 b5
  have s5 := b5.size
  replace hw := hw.trans (b5.mono hw.size)
  replace f3 := f3.u b5
  refine wl_p (fun _ => o_assign rfl) ?_
  refine wl_nil ?_
  refine ret1 rfl rfl ?_
  exact ⟨_, _, rfl, hw⟩
theorem C_kOwnBlock {u : Ky} {M G : List Value} {N0 D : Option Addr} {nc n c : Nat} {p : By} (w : World) (hS : BkS M G) (hD : Rd w D p) (hn : n = p.length) (hp : p.length ≤ 4000000000) :
    CallsR Tryz.prog 23 [.agg (bkC u M N0 nc D n c G).toArray] w fun v w' => ∃ N' nc' D' c', v = .agg (bkC u M N' nc' D' p.length c' G).toArray ∧ OwnH w' w.heap.size w'.heap.size D' c' p ∧ Below w.heap.size w w' := by
  subst hn
  refine callsR Tryz.func23 rfl rfl (by kernel_rfl) rfl ?_
  have hw := Below.refl w.heap.size w
  refine rk_seq ?_
  refine rk_region ?_
  refine wl_boxg _ rfl (by rfl) ?_
  rintro g1 w1 f1 b1 i1 i1_1
  have s1 := b1.size
  replace hw := hw.trans (b1.mono hw.size)
  refine wl_allocBk ?_
  rintro g2 w2 f2 b2 i2 i2_1
  have s2 := b2.size
  replace hw := hw.trans (b2.mono hw.size)
  replace f1 := f1.u b2
  refine wl_nil ?_
  refine rk_seq ?_
  refine rk_drawo (id := 1) (none) [0, 1, 2, 0, 8, 20, 31, 127, 255, 511] [0, 1, 3, 0, 8, 31, 31, 127, 255, 511] 676 4 [0, 1, 3, 4, 2, 6, 5, 7, 8, 9] [(.p, 0), (.r, 1), (.p, 3), (.s, 4), (.c, 2), (.p, 6), (.l, 5), (.l, 7), (.p, 8), (.l, 9)] (by kernel_rfl) (by kernel_rfl) (by kernel_rfl) (by kernel_rfl) (by kernel_rfl) ?_
  dsimp only [inOrder, nthOp]
  replace hw := hw.drew
  replace f1 := f1.d
  replace f2 := f2.d
  refine wl_p (fun _ => o_faddr (s := 49) (i := 3) (off := 65) Tryz.underlying49 rfl Tryz.sizeOf45 rfl rfl rfl) ?_
  refine wl_r (o_ldBkL rfl f1 (by omega)) ?_
  refine wl_p (fun _ => o_faddr (s := 49) (i := 4) (off := 66) Tryz.underlying49 rfl Tryz.sizeOf39 rfl rfl rfl) ?_
  refine wl_s (fun _ hk => (o_ldBkDt rfl (f1.u (below_of_grown_none hk)) hS)) ?_
  refine wl_call rfl (C_kNames0 _) ?_ (hq := .inr fun _ _ h => grown_of_below h.choose_spec.choose_spec.2 _)
  rintro v5 w5 ⟨A5, ⟨c5, ⟨rfl, b5⟩⟩⟩
  simp only [drew_size] at b5
  have s5 := b5.size
  simp only [drew_size] at s5
  replace hw := hw.trans (b5.mono hw.size)
  replace f2 := f2.u b5
  replace f1 := f1.u b5
  refine wl_p (fun _ => o_faddr (s := 49) (i := 3) (off := 65) Tryz.underlying49 rfl Tryz.sizeOf45 rfl rfl rfl) ?_
  refine wl_call rfl (C_kOwn _ (hD.u hw) rfl (by omega)) ?_
  rintro v8 w8 ⟨A8, ⟨c8, ⟨rfl, ⟨f8, b8⟩⟩⟩⟩
  have qf8 := f8.cap
  have s8 := b8.size
  replace hw := hw.trans (b8.mono hw.size)
  replace f1 := f1.u b8
  replace f2 := f2.u b8
  refine wl_stBkL rfl f1 rfl (by omega) ?_
  rintro w_1 f g e
  have s := g.size
  replace hw := hw.trans (below_of_grownBy g.g hw.size (by omega))
  replace f2 := f2.k g.g (ap_some (by omega))
  replace f8 := f8.k g.g (ap_some (by omega))
  clear f1
  refine wl_p (fun _ => o_faddr (s := 49) (i := 4) (off := 66) Tryz.underlying49 rfl Tryz.sizeOf39 rfl rfl rfl) ?_
  refine wl_stBkD rfl f rfl (by omega) ?_
  rintro w_2 f_1 g_1 e_1
  have s_1 := g_1.size
  replace hw := hw.trans (below_of_grownBy g_1.g hw.size (by omega))
  replace f8 := f8.k g_1.g (ap_some (by omega))
  replace f2 := f2.k g_1.g (ap_some (by omega))
  clear f
  refine wl_nild ?_
  refine rk_seq ?_
  refine rk_region ?_
  refine wl_r (o_ldBkA rfl f_1 (by omega)) ?_
  refine wl_stBkB rfl f2 bkS0 rfl (by omega) ?_
  rintro w_3 f g_2 e_2
  have s_2 := g_2.size
  replace hw := hw.trans (below_of_grownBy g_2.g hw.size (by omega))
  replace f8 := f8.k g_2.g (ap_some (by omega))
  replace f_1 := f_1.k g_2.g (ap_some (by omega))
  clear f2
  refine wl_nil ?_
  refine ret_cell rfl rfl Tryz.isAgg49 Tryz.sizeOf49 f (bkC_length hS) ?_
  exact ⟨A5, c5, A8, c8, rfl, f8.base (by omega) (by omega), hw⟩
/-- The blocks' bytes are not too many. -/
def LtB (L : List Bk) : Prop := ∀ b ∈ L, b.2.length ≤ 4000000
theorem C_kOwnBlocks {A : Option Addr} {L : List Bk} {n c : Nat} (w : World) (hA : RBk w A L) (hn : n = L.length) (hl : L.length ≤ 40000) (hL : LtB L) :
    CallsR Tryz.prog 12 [.slice A n c] w fun v w' => ∃ A' c', v = .slice A' L.length c' ∧ OwnB w' w.heap.size w'.heap.size A' c' L ∧ Below w.heap.size w w' := by
  subst hn
  refine callsR Tryz.func12 rfl rfl (by kernel_rfl) rfl ?_
  have hw := Below.refl w.heap.size w
  refine rk_seq ?_
  refine rk_region ?_
  refine wl_p (fun _ => o_assign rfl) ?_
  refine wl_nil ?_
  refine rk_seq ?_
  refine rk_region ?_
  refine wl_p (fun _ => o_assign rfl) ?_
  refine wl_nil ?_
  refine rk_seq ?_
  refine rk_seq ?_
  refine rk_region ?_
  refine wl_p (fun _ => o_assign rfl) ?_
  refine wl_nil ?_
  refine rk_block ?_
  refine rk_joinf (fun fb fr w3 => ∃ A' c', fr = [(3, .slice A' L.length c')] ++ fb.drop 2 ∧ OwnB w3 w.heap.size w3.heap.size A' c' L ∧ Below w.heap.size w w3) ?_ (fun ks hj => ?_)
  rotate_left
  · refine rk_loopf (fun fb k fr w3 => ∃ (i : Nat) (v : Int) (A' : Option Addr) (c' : Nat) (J : List Bk), fr = [(4, .int .i64 v), (3, .slice A' J.length c')] ++ fb.drop 2 ∧ v = i ∧ i ≤ L.length ∧ k = L.length - i ∧ J = L.take i ∧ OwnB w3 w.heap.size w3.heap.size A' c' J ∧ Below w.heap.size w w3) (n := L.length) (Fr.le_of (by kernel_rfl) (by kernel_rfl) (by repeat' constructor)) ⟨0, _, none, _, [], rfl, rfl, by omega, rfl, rfl, OwnB.nil_, hw⟩ ?_
    clear hw
    rintro k fr w3 ⟨i, v, A', c', J, rfl, rfl, hi, rfl, hJ, fo, hw⟩
    have shw := hw.size
    have hJl : J.length = i := by rw [hJ, List.length_take]; omega
    first | refine rk_frame (by simp only [List.cons_append, List.nil_append, List.drop_succ_cons, List.drop_zero]; rfl) ?_ | refine wl_frame (by simp only [List.cons_append, List.nil_append, List.drop_succ_cons, List.drop_zero]; rfl) ?_
    refine rk_seq ?_
    refine rk_seq ?_
    refine rk_region ?_
    refine wl_p (fun _ => o_move rfl) ?_
    refine wl_p (fun _ => o_move rfl) ?_
    refine wl_p (fun _ => o_len (t := 25) Tryz.underlying25 rfl) ?_
    refine wl_p (fun _ => o_lt rfl rfl) ?_
    refine wl_nil ?_
    refine rk_if rfl (fun h8 => ?_) (fun h8 => ?_)
    · have hil : i < L.length := by omega
      have n1 := hL _ (List.getElem_mem hil)
      refine rk_skip ?_
      refine rk_seq ?_
      refine rk_block ?_
      refine rk_region ?_
      refine wl_p (fun _ => o_move rfl) ?_
      refine wl_p (fun _ => o_move rfl) ?_
      refine wl_p (fun _ => o_move rfl) ?_
      refine wl_p (fun _ => (o_iaddrA (i) Tryz.underlying25 Tryz.sizeOf49 rfl rfl rfl (hA.some_ (by omega)) (by omega))) ?_
      refine wl_ldBk rfl hA hw (by omega) ?_
      rintro M15 N15 nc15 D15 c15 G15 i15 f15 i15_1 i15_2
      refine wl_call rfl (C_kOwnBlock _ (by omega) (f15.u hw) rfl (by omega)) ?_
      rintro v16 w16 ⟨N16, ⟨nc16, ⟨D16, ⟨c16, ⟨rfl, ⟨f16, b16⟩⟩⟩⟩⟩⟩
      have qf16 := f16.cap
      have s16 := b16.size
      replace hw := hw.trans (b16.mono hw.size)
      replace fo := fo.u b16
      have m1 := own_max f16
      refine wl_litBk1 (by rfl) rfl (by omega) f16.to_RdT rfl (by omega) (by omega) (by rfl) ?_
      rintro A17 w17 f17 b17
      have qf17 := f17.cap
      have s17 := b17.size
      replace hw := hw.trans (b17.mono hw.size)
      replace fo := fo.u b17
      replace f16 := f16.u b17
      refine wl_appBk rfl fo rfl rfl f17.to_RBT (by rfl) (by omega) hw.size ?_
      rintro A18 c18 w18 f18 g18 b18
      have qf18 := f18.cap
      have s18 := g18.size
      replace hw := hw.trans (b18.mono (by omega))
      replace f16 := f16.y g18 (by decide)
      replace f17 := f17.q g18 (fo.ap (by omega)) (by decide)
      clear fo
      refine wl_p (fun _ => o_assign rfl) ?_
      refine wl_nil ?_
      refine rk_blk ?_
      refine rk_region ?_
      refine wl_p (fun _ => o_move rfl) ?_
      refine wl_p (fun _ => o_add rfl rfl (by omega) (by omega)) ?_
      refine wl_p (fun _ => o_assign rfl) ?_
      refine wl_nil ?_
      exact rk_againf (Fr.le_of (by kernel_rfl) (by kernel_rfl) (by repeat' constructor)) ⟨i + 1, (i : Int) + 1, A18, c18, J ++ [(L[i].1, L[i].2)], rfl, by omega, by omega, rfl, by rw [hJ, List.take_succ_eq_append_getElem hil], f18, hw⟩ (by omega)
    · refine rk_exit rfl ?_
      obtain rfl : i = L.length := by omega
      rw [List.take_length] at hJ
      subst hJ
      exact rk_tof hj (Fr.le_of (by kernel_rfl) (by kernel_rfl) (by repeat' constructor)) ⟨A', c', rfl, fo, hw⟩
  clear hw
  rintro fr w3 ⟨A', c', rfl, fo, hw⟩
  have shw := hw.size
  first | refine rk_frame (by simp only [List.cons_append, List.nil_append, List.drop_succ_cons, List.drop_zero]; rfl) ?_ | refine wl_frame (by simp only [List.cons_append, List.nil_append, List.drop_succ_cons, List.drop_zero]; rfl) ?_
  refine rk_seq ?_
  refine rk_region ?_
  refine wl_p (fun _ => o_move rfl) ?_
  refine wl_p (fun _ => o_assign rfl) ?_
  refine wl_nil ?_
  refine ret1 rfl rfl ?_
  exact ⟨A', c', rfl, fo, hw⟩
end Go.Proofs.YtahkeoegbjopfaaGreat
/-
  Plain mathematics: numbers are ordered as their bytes are.
-/
namespace Go.Proofs.YtahkeoegbjopfaaGreat
set_option maxRecDepth 100000

theorem less_cons (a b : UInt8) (x y : List UInt8) : Op.bytesLess (a :: x) (b :: y) = (decide (a.toNat < b.toNat) || (decide (a.toNat = b.toNat) && Op.bytesLess x y)) := by
  have h1 : decide (a < b) = decide (a.toNat < b.toNat) := by rw [decide_eq_decide, UInt8.lt_iff_toNat_lt]
  have h2 : (a == b) = decide (a.toNat = b.toNat) := by rw [Bool.eq_iff_iff]; simp [UInt8.toNat_inj]
  simp only [Op.bytesLess]
  rw [h1, h2]

theorem be_less : ∀ (j n m : Nat), Op.bytesLess (beB j n) (beB j m) = decide (n % 256 ^ j < m % 256 ^ j)
  | 0, n, m => by simp [beB, Op.bytesLess, Nat.mod_one]
  | j + 1, n, m => by
    rw [beB, beB, less_cons, be_less j n m, UInt8.toNat_ofNat', UInt8.toNat_ofNat']
    have hp : 0 < 256 ^ j := Nat.pos_of_ne_zero (by simp)
    rw [show (2 : Nat) ^ 8 = 256 from rfl, Nat.pow_succ, Nat.mod_mul, Nat.mod_mul]
    have h1 := Nat.mod_lt n hp
    have h2 := Nat.mod_lt m hp
    generalize n / 256 ^ j % 256 = a at *
    generalize m / 256 ^ j % 256 = b at *
    generalize n % 256 ^ j = x at *
    generalize m % 256 ^ j = y at *
    generalize 256 ^ j = q at *
    rw [Bool.eq_iff_iff]
    simp only [Bool.or_eq_true, decide_eq_true_eq, Bool.and_eq_true]
    rcases Nat.lt_trichotomy a b with h | h | h
    · have h3 : q * a + q ≤ q * b := by rw [← Nat.mul_succ]; exact Nat.mul_le_mul_left q h
      constructor
      · intro _; omega
      · intro _; exact .inl h
    · subst h
      constructor
      · rintro (h3 | ⟨_, h3⟩)
        · omega
        · omega
      · intro h3; exact .inr ⟨rfl, by omega⟩
    · have h3 : q * b + q ≤ q * a := by rw [← Nat.mul_succ]; exact Nat.mul_le_mul_left q h
      constructor
      · rintro (h4 | ⟨h4, _⟩) <;> omega
      · intro _; omega

theorem first_nat (n : Nat) (h : n < 18446744073709551616) : (first (room n) n).toNat = 256 - 2 ^ (9 - room n) + n / 256 ^ (room n - 1) := by
  have hk := room_pos n
  have hlt := room_lt n h
  have h5 : 2 ^ (8 - room n) ≤ 2 ^ (9 - room n) := Nat.pow_le_pow_right (by omega) (by omega)
  have h6 : 2 ^ (9 - room n) ≤ 256 := Nat.pow_le_pow_right (show 0 < 2 by omega) (show 9 - room n ≤ 8 by omega)
  unfold first
  rw [UInt8.toNat_ofNat', Nat.mod_eq_of_lt]
  rcases Nat.lt_or_ge (room n) 9 with h9 | h9
  · have : 2 ^ (9 - room n) = 2 ^ (8 - room n) * 2 := by rw [← Nat.pow_succ]; congr 1; omega
    have := Nat.two_pow_pos (8 - room n)
    omega
  · have e : room n = 9 := by omega
    rw [e] at hlt ⊢
    simp at hlt
    omega

def over (t n : Nat) : Nat := if n < t then 0 else 1
theorem over_mono (t : Nat) {n m : Nat} (h : n ≤ m) : over t n ≤ over t m := by unfold over; split <;> split <;> omega
theorem room_sum (n : Nat) : room n = 1 + over 128 n + over 16384 n + over 2097152 n + over 268435456 n + over 34359738368 n + over 4398046511104 n + over 562949953421312 n + over 72057594037927936 n := by
  unfold room
  split
  · simp only [over]; repeat rw [if_pos (by omega)]
  split
  · simp only [over]; rw [if_neg (by omega)]; repeat rw [if_pos (by omega)]
  split
  · simp only [over]; iterate 2 rw [if_neg (by omega)]
    repeat rw [if_pos (by omega)]
  split
  · simp only [over]; iterate 3 rw [if_neg (by omega)]
    repeat rw [if_pos (by omega)]
  split
  · simp only [over]; iterate 4 rw [if_neg (by omega)]
    repeat rw [if_pos (by omega)]
  split
  · simp only [over]; iterate 5 rw [if_neg (by omega)]
    repeat rw [if_pos (by omega)]
  split
  · simp only [over]; iterate 6 rw [if_neg (by omega)]
    repeat rw [if_pos (by omega)]
  split
  · simp only [over]; iterate 7 rw [if_neg (by omega)]
    repeat rw [if_pos (by omega)]
  · simp only [over]; iterate 8 rw [if_neg (by omega)]
theorem room_mono {n m : Nat} (h : n ≤ m) : room n ≤ room m := by
  rw [room_sum, room_sum]
  have := over_mono 128 h
  have := over_mono 16384 h
  have := over_mono 2097152 h
  have := over_mono 268435456 h
  have := over_mono 34359738368 h
  have := over_mono 4398046511104 h
  have := over_mono 562949953421312 h
  have := over_mono 72057594037927936 h
  omega

theorem first_lt {n m : Nat} (hn : n < 18446744073709551616) (hm : m < 18446744073709551616) (h : room n < room m) : (first (room n) n).toNat < (first (room m) m).toNat := by
  have hk := room_pos n
  have hk' := room_pos m
  rw [first_nat n hn, first_nat m hm]
  have hlt := room_lt n hn
  have e : 2 ^ (9 - room n) = 2 ^ (8 - room n) * 2 := by rw [← Nat.pow_succ]; congr 1; omega
  have h6 : 2 ^ (9 - room n) ≤ 256 := Nat.pow_le_pow_right (show 0 < 2 by omega) (show 9 - room n ≤ 8 by omega)
  have h7 : 2 ^ (9 - room m) ≤ 2 ^ (8 - room n) := Nat.pow_le_pow_right (by omega) (by omega)
  generalize n / 256 ^ (room n - 1) = a at *
  generalize m / 256 ^ (room m - 1) = b at *
  omega

theorem enc_less (n m : Nat) (hn : n < 18446744073709551616) (hm : m < 18446744073709551616) : Op.bytesLess (enc n) (enc m) = decide (n < m) := by
  unfold enc
  rw [less_cons]
  rcases Nat.lt_trichotomy (room n) (room m) with h | h | h
  · have h1 := first_lt hn hm h
    have h2 : n < m := by
      rcases Nat.lt_or_ge n m with h3 | h3
      · exact h3
      · have := room_mono h3; omega
    simp [h1, h2]
  · rw [first_nat n hn, first_nat m hm, ← h, be_less, Bool.eq_iff_iff]
    have hp : 0 < 256 ^ (room n - 1) := Nat.pos_of_ne_zero (by simp)
    have h1 := Nat.mod_lt n hp
    have h2 := Nat.mod_lt m hp
    have e1 := Nat.div_add_mod n (256 ^ (room n - 1))
    have e2 := Nat.div_add_mod m (256 ^ (room n - 1))
    generalize n / 256 ^ (room n - 1) = a at *
    generalize m / 256 ^ (room n - 1) = b at *
    generalize n % 256 ^ (room n - 1) = x at *
    generalize m % 256 ^ (room n - 1) = y at *
    generalize 256 ^ (room n - 1) = q at *
    simp only [Bool.or_eq_true, decide_eq_true_eq, Bool.and_eq_true]
    rcases Nat.lt_trichotomy a b with h | h | h
    · have h3 : q * a + q ≤ q * b := by rw [← Nat.mul_succ]; exact Nat.mul_le_mul_left q h
      constructor
      · intro _; omega
      · intro _; left; omega
    · subst h
      constructor
      · rintro (h3 | ⟨_, h3⟩) <;> omega
      · intro h3; exact .inr ⟨rfl, by omega⟩
    · have h3 : q * b + q ≤ q * a := by rw [← Nat.mul_succ]; exact Nat.mul_le_mul_left q h
      constructor
      · rintro (h4 | ⟨h4, _⟩) <;> omega
      · intro _; omega
  · have h1 := first_lt hm hn h
    have h2 : ¬ n < m := fun h3 => by have := room_mono (Nat.le_of_lt h3); omega
    have h3 : ¬ (first (room n) n).toNat < (first (room m) m).toNat := by omega
    have h4 : ¬ (first (room n) n).toNat = (first (room m) m).toNat := by omega
    simp [h2, h3, h4]

theorem less_irrefl : ∀ l : List UInt8, Op.bytesLess l l = false
  | [] => rfl
  | a :: l => by rw [less_cons, less_irrefl l]; simp
theorem enc_inj {n m : Nat} (hn : n < 18446744073709551616) (hm : m < 18446744073709551616) (h : enc n = enc m) : n = m := by
  have h1 := enc_less n m hn hm
  have h2 := enc_less m n hm hn
  rw [h, less_irrefl] at h1
  rw [h, less_irrefl] at h2
  have h3 := of_decide_eq_false h1.symm
  have h4 := of_decide_eq_false h2.symm
  omega

theorem room_hi (n : Nat) : room n = 9 ∨ n / 2 ^ (7 * room n) = 0 := by
  unfold room
  repeat' split
  all_goals first | (left; rfl) | (right; simp; omega)
theorem room_low (n : Nat) : room n = 1 ∨ n / 2 ^ (7 * (room n - 1)) ≠ 0 := by
  unfold room
  repeat' split
  all_goals first | (left; rfl) | (right; simp; omega)
end Go.Proofs.YtahkeoegbjopfaaGreat
/-
  Plain laws of chapter 1: what is written is read back, and nothing else is read so.
-/
namespace Go.Proofs.YtahkeoegbjopfaaGreat
set_option maxRecDepth 100000

theorem lead_first (n : Nat) (h : n < 18446744073709551616) : lead (first (room n) n) = room n ∧ (first (room n) n).toNat % 2 ^ (8 - room n) = n / 256 ^ (room n - 1) := by
  have hk := room_pos n
  have hlt := room_lt n h
  have hf := first_nat n h
  unfold lead
  generalize n / 256 ^ (room n - 1) = q at *
  generalize (first (room n) n).toNat = f at *
  generalize room n = k at *
  obtain e | e | e | e | e | e | e | e | e : k = 1 ∨ k = 2 ∨ k = 3 ∨ k = 4 ∨ k = 5 ∨ k = 6 ∨ k = 7 ∨ k = 8 ∨ k = 9 := by omega
  all_goals subst e; simp only [Nat.reduceSub, Nat.reducePow] at *; refine ⟨?_, by omega⟩; (repeat' split) <;> omega

theorem ofNat_byte (q : Nat) : (UInt8.ofNat q).toNat = q % 256 := by rw [UInt8.toNat_ofNat']
theorem mod_pow_succ (n j : Nat) : n % 256 ^ (j + 1) = n % 256 ^ j + 256 ^ j * (n / 256 ^ j % 256) := by rw [Nat.pow_succ, Nat.mod_mul]
theorem beVal_beB : ∀ (j a n : Nat), beVal a (beB j n) = a * 256 ^ j + n % 256 ^ j
  | 0, a, n => by simp [beVal, beB, Nat.mod_one]
  | j + 1, a, n => by
    have e : beVal a (beB (j + 1) n) = beVal (a * 256 + (UInt8.ofNat (n / 256 ^ j)).toNat) (beB j n) := rfl
    rw [e, beVal_beB j, ofNat_byte, mod_pow_succ, Nat.pow_succ, Nat.add_mul, Nat.mul_assoc a 256, Nat.mul_comm 256 (256 ^ j), Nat.mul_comm (n / 256 ^ j % 256), Nat.add_assoc, Nat.add_comm (256 ^ j * (n / 256 ^ j % 256))]

theorem rNumber_enc (n : Nat) (h : n < 18446744073709551616) (t : List UInt8) : rNumber (enc n ++ t, 0) = (n, (t, 0)) := by
  have hk := room_pos n
  obtain ⟨h1, h2⟩ := lead_first n h
  have hv : beVal ((first (room n) n).toNat % 2 ^ (8 - lead (first (room n) n))) ((beB (room n - 1) n ++ t).take (lead (first (room n) n) - 1)) = n := by
    rw [h1, h2, List.take_append_of_le_length (by rw [beB_length]; exact Nat.le_refl _), List.take_of_length_le (by rw [beB_length]; exact Nat.le_refl _), beVal_beB]
    exact Nat.div_add_mod' n _
  show rNumber (first (room n) n :: (beB (room n - 1) n ++ t), 0) = _
  rw [rNumber_ok (by rw [h1, List.length_append, beB_length]; omega) (by rw [hv, h1]), hv, h1]
  rw [List.drop_append_of_le_length (by rw [beB_length]; exact Nat.le_refl _), List.drop_of_length_le (by rw [beB_length]; exact Nat.le_refl _)]
  rfl

theorem rBlock_enc (p t : List UInt8) (h : p.length < 18446744073709551616) : rBlock (enc p.length ++ p ++ t, 0) = (p, (t, 0)) := by
  unfold rBlock
  rw [List.append_assoc, rNumber_enc _ h]
  simp

theorem leVal_leB : ∀ (k m : Nat), leVal (leB k m) = m % 256 ^ k
  | 0, m => by simp [leB, leVal, Nat.mod_one]
  | k + 1, m => by
    have e : leB (k + 1) m = leB k m ++ [UInt8.ofNat (m / 256 ^ k)] := rfl
    rw [e, leVal_snoc, leVal_leB k, leB_length, ofNat_byte, mod_pow_succ, Nat.mul_comm]

theorem rWord_le (size : Int) (m : Nat) (t : List UInt8) : rWord size (leB (clampN size) m ++ t, 0) = (m % 256 ^ clampN size, (t, 0)) := by
  unfold rWord rTake
  have hl : (leB (clampN size) m).length = clampN size := leB_length _ _
  rw [if_neg (by simp), if_neg (by simp [hl])]
  simp only [List.take_append_of_le_length (Nat.le_of_eq hl.symm), List.drop_append_of_le_length (Nat.le_of_eq hl.symm)]
  rw [List.take_of_length_le (Nat.le_of_eq hl), List.drop_of_length_le (Nat.le_of_eq hl), leVal_leB]
  rfl

theorem rDigest_all (d : List UInt8) (h : d.length = 32) : rDigest (d, 0) = (d, ([], 0)) := by
  unfold rDigest rTake
  have e : d.take 32 = d := List.take_of_length_le (Nat.le_of_eq h)
  simp [h, e]

theorem beVal_split : ∀ (l : List UInt8) (a : Nat), beVal a l / 256 ^ l.length = a
  | [], a => by simp [beVal]
  | c :: l, a => by
    have e : beVal a (c :: l) = beVal (a * 256 + c.toNat) l := rfl
    have h := beVal_split l (a * 256 + c.toNat)
    have hc := c.toNat_lt
    rw [e, List.length_cons, Nat.pow_succ, ← Nat.div_div_eq_div_mul, h]
    omega
theorem beB_beVal : ∀ (l : List UInt8) (a : Nat), beB l.length (beVal a l) = l
  | [], _ => rfl
  | c :: l, a => by
    have e : beVal a (c :: l) = beVal (a * 256 + c.toNat) l := rfl
    have hc := c.toNat_lt
    rw [e, List.length_cons, beB, beVal_split, beB_beVal l]
    congr 1
    apply UInt8.toNat_inj.1
    rw [UInt8.toNat_ofNat']
    omega
theorem lead_back (c : UInt8) : 256 - 2 ^ (9 - lead c) + c.toNat % 2 ^ (8 - lead c) = c.toNat := by
  have hc := c.toNat_lt
  unfold lead
  generalize c.toNat = x at *
  repeat' split
  all_goals simp only [Nat.reduceSub, Nat.reducePow]; omega

/-- What is read as a number is written so. -/
theorem rNumber_back {b r : List UInt8} {u : Nat} (h : rNumber (b, 0) = (u, (r, 0))) : b = enc u ++ r ∧ u < 18446744073709551616 := by
  cases b with
  | nil => rw [rNumber_nil] at h; simp at h
  | cons c t =>
    by_cases h1 : t.length + 1 < lead c
    · rw [rNumber_more h1] at h; simp at h
    · by_cases h2 : room (beVal (c.toNat % 2 ^ (8 - lead c)) (t.take (lead c - 1))) = lead c
      · rw [rNumber_ok h1 h2] at h
        simp only [Prod.mk.injEq, and_true] at h
        obtain ⟨hu, hr⟩ := h
        have hk := lead_bd c
        have hlen : (t.take (lead c - 1)).length = lead c - 1 := by rw [List.length_take]; omega
        have hu64 := beVal_u64 c (t.take (lead c - 1)) (by omega)
        rw [hu] at h2 hu64
        refine ⟨?_, hu64⟩
        have hdiv : u / 256 ^ (lead c - 1) = c.toNat % 2 ^ (8 - lead c) := by
          have := beVal_split (t.take (lead c - 1)) (c.toNat % 2 ^ (8 - lead c))
          rw [hlen, hu] at this
          exact this
        have hrest : beB (lead c - 1) u = t.take (lead c - 1) := by
          have := beB_beVal (t.take (lead c - 1)) (c.toNat % 2 ^ (8 - lead c))
          rw [hlen, hu] at this
          exact this
        have hf : first (lead c) u = c := by
          apply UInt8.toNat_inj.1
          unfold first
          rw [UInt8.toNat_ofNat', hdiv, lead_back]
          have := c.toNat_lt
          omega
        unfold enc
        rw [h2, hf, hrest, ← hr, List.cons_append, List.take_append_drop]
      · rw [rNumber_bad h1 h2] at h; simp at h

theorem rBlock_back {b q r : List UInt8} (h : rBlock (b, 0) = (q, (r, 0))) : b = enc q.length ++ q ++ r := by
  unfold rBlock at h
  generalize hn : rNumber (b, 0) = x at h
  obtain ⟨n, s, e⟩ := x
  simp only at h
  by_cases he : e = 0
  · subst he
    rw [if_neg (by simp)] at h
    obtain ⟨hb, _⟩ := rNumber_back hn
    by_cases hl : s.length < n
    · rw [if_pos hl] at h; simp at h
    · rw [if_neg hl] at h
      simp only [Prod.mk.injEq, and_true] at h
      obtain ⟨hq, hr⟩ := h
      have hqn : q.length = n := by rw [← hq, List.length_take]; omega
      rw [hb, hqn, ← hq, ← hr, List.append_assoc, List.take_append_drop]
  · rw [if_pos he] at h
    simp only [Prod.mk.injEq] at h
    exact absurd h.2.2 he
end Go.Proofs.YtahkeoegbjopfaaGreat
/-
  Plain laws of ops: what is written is read back, and nothing else is read so; what an op does to a valid state.
-/
namespace Go.Proofs.YtahkeoegbjopfaaGreat
set_option maxRecDepth 100000
theorem rWord_cons (c : UInt8) (t : List UInt8) : rWord 1 (c :: t, 0) = (c.toNat, (t, 0)) := by
  unfold rWord rTake
  have hc : clampN 1 = 1 := by decide
  rw [hc]
  simp [leVal]
theorem rWord_nil : rWord 1 ([], 0) = (0, ([], 5)) := by decide
theorem rDigest_enc (u : Ky) (t : List UInt8) : rDigest (u.1 ++ t, 0) = (u.1, (t, 0)) := by
  have h := u.2
  have h2 : ¬ (u.1 ++ t).length < 32 := by rw [List.length_append]; omega
  have e1 : rTake 32 (u.1 ++ t, 0) = (u.1, (t, 0)) := by
    unfold rTake
    rw [if_neg (by simp), if_neg h2, List.take_left' h, List.drop_left' h]
  unfold rDigest
  rw [e1]
  simp
theorem blk_enc (p t : List UInt8) (h : p.length < 18446744073709551616) : rBlock (blkB p ++ t, 0) = (p, (t, 0)) := rBlock_enc p t h
theorem rBlock_err {l : List UInt8} {e : Nat} (h : e ≠ 0) : (rBlock (l, e)).2.2 ≠ 0 := by
  unfold rBlock
  rw [rNumber_err h]
  simp [h]
theorem goodS_1 {n m : Nat} {u : Ky} (h : goodS 1 n m u = true) : 1 ≤ n ∧ n ≤ 16 ∧ m ≤ 32 ∧ u = z32 := by
  simp only [goodS, if_pos, Bool.and_eq_true, decide_eq_true_eq] at h
  exact ⟨h.1.1.1, h.1.1.2, h.1.2, h.2⟩
theorem goodS_2 {n m : Nat} {u : Ky} (h : goodS 2 n m u = true) : 1 ≤ n ∧ n ≤ 16 ∧ m = 0 ∧ u = z32 := by
  have e : goodS 2 n m u = (decide (1 ≤ n ∧ n ≤ 16) && decide (m = 0) && decide (u = z32)) := rfl
  rw [e] at h
  simp only [Bool.and_eq_true, decide_eq_true_eq] at h
  exact ⟨h.1.1.1, h.1.1.2, h.1.2, h.2⟩
theorem goodS_who {k : Int} {n m : Nat} {u : Ky} (h1 : k ≠ 1) (h2 : k ≠ 2) (h : goodS k n m u = true) : n = 0 ∧ m = 0 := by
  simp only [goodS, if_neg h1, if_neg h2, Bool.and_eq_true, decide_eq_true_eq] at h
  exact h
theorem readS_tail {k : Int} {p q : By} {u : Ky} {t : List UInt8} (hg : goodS k p.length q.length u = true) : readS k (tailS k p q u ++ t, 0) = (p, q, u, (t, 0)) := by
  by_cases h1 : k = 1
  · subst h1
    obtain ⟨g1, g2, g3, rfl⟩ := goodS_1 hg
    have e : tailS 1 p q z32 = blkB p ++ blkB q := rfl
    have e1 := blk_enc p (blkB q ++ t) (by omega)
    have e2 := blk_enc q t (by omega)
    simp only [readS, if_pos, e, List.append_assoc, e1, e2]
  · by_cases h2 : k = 2
    · subst h2
      obtain ⟨g1, g2, g3, rfl⟩ := goodS_2 hg
      obtain rfl : q = [] := List.eq_nil_of_length_eq_zero g3
      have e : tailS 2 p [] z32 = blkB p := rfl
      have e1 := blk_enc p t (by omega)
      simp [readS, e, e1]
    · obtain ⟨g1, g2⟩ := goodS_who h1 h2 hg
      obtain rfl : p = [] := List.eq_nil_of_length_eq_zero g1
      obtain rfl : q = [] := List.eq_nil_of_length_eq_zero g2
      have e1 := rDigest_enc u t
      have e : tailS k [] [] u = u.1 := by simp [tailS, h1, h2]
      have e2 : digK (u.1 ++ t, 0) = u := Subtype.ext (by show (rDigest (u.1 ++ t, 0)).1 = u.1; rw [e1])
      simp only [readS, if_neg h1, if_neg h2, e, e1, e2]
theorem readS_back {k : Int} {p q : By} {u : Ky} {l t : List UInt8} (h : readS k (l, 0) = (p, q, u, (t, 0))) : l = tailS k p q u ++ t := by
  by_cases h1 : k = 1
  · subst h1
    simp only [readS, if_pos, Prod.mk.injEq] at h
    obtain ⟨e1, e2, e3, e4⟩ := h
    obtain ⟨⟨p', l1, e⟩, hb⟩ : ∃ s, rBlock (l, 0) = s := ⟨_, rfl⟩
    rw [hb] at e1 e2 e4
    dsimp only at e1 e2 e4
    by_cases he : e = 0
    · subst he
      subst e1
      have k1 := rBlock_back hb
      obtain ⟨⟨q', l2, e'⟩, hb2⟩ : ∃ s, rBlock (l1, 0) = s := ⟨_, rfl⟩
      rw [hb2] at e2 e4
      dsimp only at e2 e4
      subst e2
      injection e4 with e4 e5
      subst e4; subst e5
      have k2 := rBlock_back hb2
      show l = blkB p' ++ blkB q' ++ l2
      unfold blkB
      rw [k1, k2]; simp
    · have := rBlock_err (l := l1) he
      rw [e4] at this
      exact absurd rfl this
  · by_cases h2 : k = 2
    · subst h2
      have e0 : readS 2 (l, 0) = ((rBlock (l, 0)).1, [], z32, (rBlock (l, 0)).2) := rfl
      rw [e0] at h
      simp only [Prod.mk.injEq] at h
      obtain ⟨e1, rfl, rfl, e4⟩ := h
      have hb : rBlock (l, 0) = (p, (t, 0)) := by rw [← e1, ← e4]
      exact rBlock_back hb
    · simp only [readS, if_neg h1, if_neg h2, Prod.mk.injEq] at h
      obtain ⟨rfl, rfl, rfl, e4⟩ := h
      have e : tailS k [] [] (digK (l, 0)) = (rDigest (l, 0)).1 := by simp [tailS, h1, h2]; rfl
      rw [e]
      unfold rDigest rTake at e4 ⊢
      by_cases h3 : l.length < 32
      · simp [h3] at e4
      · simp only [ne_eq, not_true_eq_false, if_false, h3] at e4 ⊢
        injection e4 with e4
        rw [← e4, List.take_append_drop]
theorem readL_enc : ∀ (L : List Opn) (t : List UInt8), (∀ o ∈ L, okO o = true) → readL L.length (L.flatMap opB ++ t, 0) = some (L, (t, 0))
  | [], t, _ => rfl
  | (k, p, q, u) :: L, t, h => by
    have h0 := h (k, p, q, u) (by simp)
    obtain ⟨k1, k2, k3⟩ := okOp_of (show okOp k p.length q.length u = true from h0)
    have hkn : (UInt8.ofNat k.toNat).toNat = k.toNat := UInt8.toNat_ofNat_of_lt' (by show k.toNat < 256; omega)
    have ih := readL_enc L t (fun o ho => h o (by simp [ho]))
    have e : ((k, p, q, u) :: L).flatMap opB ++ t = UInt8.ofNat k.toNat :: (tailS k p q u ++ (L.flatMap opB ++ t)) := by
      simp [opB]
    have hkk : ((k.toNat : Nat) : Int) = k := Int.toNat_of_nonneg (by omega)
    rw [e, List.length_cons, readL, rWord_cons]
    dsimp only
    rw [hkn, if_pos (by omega), hkk, readS_tail k3]
    dsimp only
    rw [if_pos ⟨rfl, k3⟩, ih]
    rfl
theorem readL_back : ∀ (n : Nat) (l : List UInt8) (L : List Opn) (t : List UInt8), readL n (l, 0) = some (L, (t, 0)) → L.length = n ∧ (∀ o ∈ L, okO o = true) ∧ l = L.flatMap opB ++ t
  | 0, l, L, t, h => by
    rw [readL] at h
    injection h with h
    injection h with h1 h2
    injection h2 with h2
    subst h1; subst h2
    exact ⟨rfl, fun o ho => (by cases ho), rfl⟩
  | n + 1, l, L, t, h => by
    rw [readL] at h
    rcases l with _ | ⟨c, l⟩
    · rw [rWord_nil] at h
      simp at h
    · rw [rWord_cons] at h
      dsimp only at h
      by_cases hk : 1 ≤ c.toNat ∧ c.toNat ≤ 6
      · rw [if_pos hk] at h
        obtain ⟨⟨p, q, u, l2, e2⟩, hs⟩ : ∃ s, readS (c.toNat : Nat) (l, 0) = s := ⟨_, rfl⟩
        rw [hs] at h
        dsimp only at h
        by_cases hg : e2 = 0 ∧ goodS (c.toNat : Nat) p.length q.length u = true
        · rw [if_pos hg] at h
          obtain ⟨rfl, hg⟩ := hg
          obtain ⟨⟨L2, s2⟩, hL2⟩ : ∃ r, readL n (l2, 0) = some r := by
            cases hr : readL n (l2, 0) with
            | none => rw [hr] at h; cases h
            | some r => exact ⟨r, rfl⟩
          rw [hL2] at h
          injection h with h
          injection h with h1 h2
          subst h1; subst h2
          obtain ⟨i1, i2, i3⟩ := readL_back n l2 L2 t hL2
          have hb := readS_back hs
          refine ⟨by rw [List.length_cons, i1], fun o ho => ?_, ?_⟩
          · rcases List.mem_cons.1 ho with rfl | ho
            · show okOp (c.toNat : Nat) p.length q.length u = true
              unfold okOp
              rw [hg, decide_eq_true (by omega), decide_eq_true (by omega)]
              rfl
            · exact i2 o ho
          · rw [List.flatMap_cons, opB]
            dsimp only
            rw [Int.toNat_natCast, UInt8.ofNat_toNat, hb, i3]
            simp
        · rw [if_neg hg] at h; cases h
      · rw [if_neg hk] at h; cases h
theorem rEnd_zero {s : RS} (h : rEnd s = 0) : s = ([], 0) := by
  obtain ⟨l, e⟩ := s
  unfold rEnd at h
  by_cases h1 : e = 0
  · subst h1
    by_cases h2 : l = []
    · subst h2; rfl
    · simp [h2] at h
  · simp [h1] at h
theorem readO_back {b : By} {L : List Opn} (h : readO b = (L, 0)) : bytesO L = (b, 0) := by
  unfold readO at h
  by_cases h8 : 8 < (rWord 1 (b, 0)).1
  · rw [if_pos h8] at h; cases h
  rw [if_neg h8] at h
  rcases b with _ | ⟨c, b⟩
  · rw [rWord_nil] at h
    simp [readL, rEnd] at h
  · rw [rWord_cons] at h h8
    dsimp only at h h8
    cases hr : readL c.toNat (b, 0) with
    | none => rw [hr] at h; cases h
    | some r =>
      obtain ⟨L2, s⟩ := r
      rw [hr] at h
      dsimp only at h
      by_cases hE : rEnd s = 0
      · rw [if_pos hE] at h
        injection h with h
        subst h
        rw [rEnd_zero hE] at hr
        obtain ⟨i1, i2, i3⟩ := readL_back _ _ _ _ hr
        unfold bytesO
        rw [if_neg (by omega), if_pos (List.all_eq_true.2 i2), i1, i3]
        simp
      · rw [if_neg hE] at h; cases h
theorem bytesO_ok {L : List Opn} {x : By} (h : bytesO L = (x, 0)) : L.length ≤ 8 ∧ (∀ o ∈ L, okO o = true) ∧ x = UInt8.ofNat L.length :: L.flatMap opB := by
  unfold bytesO at h
  by_cases h8 : 8 < L.length
  · rw [if_pos h8] at h; cases h
  rw [if_neg h8] at h
  by_cases hk : L.all okO = true
  · rw [if_pos hk] at h
    injection h with h
    exact ⟨by omega, List.all_eq_true.1 hk, h.symm⟩
  · rw [if_neg hk] at h; cases h
theorem readO_bytes {L : List Opn} {x : By} (h : bytesO L = (x, 0)) : readO x = (L, 0) := by
  obtain ⟨h1, h2, rfl⟩ := bytesO_ok h
  have hn : (UInt8.ofNat L.length).toNat = L.length := UInt8.toNat_ofNat_of_lt' (by show L.length < 256; omega)
  have e := readL_enc L [] h2
  rw [List.append_nil] at e
  unfold readO
  rw [rWord_cons]
  dsimp only
  rw [hn, if_neg (by omega), e]
  rfl
theorem readO_more {L : List Opn} {x : By} (h : bytesO L = (x, 0)) : readO (x ++ [0]) = ([], 4) := by
  obtain ⟨h1, h2, rfl⟩ := bytesO_ok h
  have hn : (UInt8.ofNat L.length).toNat = L.length := UInt8.toNat_ofNat_of_lt' (by show L.length < 256; omega)
  have e := readL_enc L [0] h2
  unfold readO
  rw [List.cons_append, rWord_cons]
  dsimp only
  rw [hn, if_neg (by omega), e]
  rfl
theorem bytesO_err (L : List Opn) : (bytesO L).2 = 0 ∨ (bytesO L).2 = 2 ∧ (bytesO L).1 = [] := by
  unfold bytesO
  (repeat' split) <;> simp
end Go.Proofs.YtahkeoegbjopfaaGreat
/-
  Plain laws of ops: valid states stay valid; what Get answers after an op.
-/
namespace Go.Proofs.YtahkeoegbjopfaaGreat
set_option maxRecDepth 100000
abbrev cmpR (a b : By) : Prop := cmpL a b < 0
theorem srt_pw {L : List By} : Srt L ↔ L.Pairwise cmpR := by
  constructor
  · intro h
    rw [List.pairwise_iff_getElem]
    exact fun i j hi hj hij => cmpL_chain h j i hj hij
  · intro h i hi h0
    rw [List.pairwise_iff_getElem] at h
    exact h (i - 1) i (by omega) hi (by omega)
theorem low_spec {L : List By} (hs : Srt L) (p : By) : (∀ j (h : j < L.length), j < low L p → cmpL L[j] p < 0) ∧ (∀ j (h : j < L.length), low L p ≤ j → 0 ≤ cmpL L[j] p) := by
  have h1 : ∀ j (h : j < L.length), j < L.findIdx (fun x => decide (0 ≤ cmpL x p)) → cmpL L[j] p < 0 := fun j hj hjk => by
    have := List.not_of_lt_findIdx hjk
    simp only [Bool.not_eq_true, decide_eq_false_iff_not] at this
    omega
  have h2 : ∀ j (h : j < L.length), L.findIdx (fun x => decide (0 ≤ cmpL x p)) ≤ j → 0 ≤ cmpL L[j] p := fun j hj hjk => by
    have hk : L.findIdx (fun x => decide (0 ≤ cmpL x p)) < L.length := by omega
    have := List.findIdx_getElem (w := hk)
    simp only [decide_eq_true_eq] at this
    exact above_all hs hk this j hj hjk
  have e := low_eq (List.findIdx_le_length) h1 h2
  rw [e]
  exact ⟨h1, h2⟩
def insL (L : List By) (p : By) : List By := L.take (low L p) ++ [p] ++ L.drop (low L p)
theorem mem_insL {L : List By} {p x : By} : x ∈ insL L p ↔ x = p ∨ x ∈ L := by
  unfold insL
  rw [List.mem_append, List.mem_append, List.mem_singleton]
  have e : x ∈ L ↔ x ∈ L.take (low L p) ∨ x ∈ L.drop (low L p) := by
    conv => lhs; rw [← List.take_append_drop (low L p) L]
    exact List.mem_append
  rw [e]
  constructor
  · rintro ((h | h) | h)
    · exact .inr (.inl h)
    · exact .inl h
    · exact .inr (.inr h)
  · rintro (h | h | h)
    · exact .inl (.inr h)
    · exact .inl (.inl h)
    · exact .inr h
theorem srt_insL {L : List By} {p : By} (hs : Srt L) (hp : p ∉ L) : Srt (insL L p) := by
  obtain ⟨h1, h2⟩ := low_spec hs p
  have hpw := srt_pw.1 hs
  have ht : ∀ a ∈ L.take (low L p), cmpL a p < 0 := fun a ha => by
    obtain ⟨j, hj, rfl⟩ := List.getElem_of_mem ha
    rw [List.length_take] at hj
    rw [List.getElem_take]
    exact h1 j (by omega) (by omega)
  have hd : ∀ b ∈ L.drop (low L p), cmpL p b < 0 := fun b hb => by
    have hbL : b ∈ L := List.mem_of_mem_drop hb
    obtain ⟨j, hj, rfl⟩ := List.getElem_of_mem hb
    rw [List.length_drop] at hj
    rw [List.getElem_drop] at hbL ⊢
    have h3 := h2 (low L p + j) (by omega) (by omega)
    have h4 := cmpL_neg L[low L p + j] p
    have h5 : cmpL L[low L p + j] p ≠ 0 := fun e => hp ((cmpL_zero _ _).1 e ▸ hbL)
    omega
  rw [srt_pw, insL, List.append_assoc, List.pairwise_append]
  refine ⟨hpw.sublist (List.take_sublist _ _), ?_, ?_⟩
  · rw [List.singleton_append, List.pairwise_cons]
    exact ⟨hd, hpw.sublist (List.drop_sublist _ _)⟩
  · intro a ha b hb
    rw [List.singleton_append, List.mem_cons] at hb
    rcases hb with rfl | hb
    · exact ht a ha
    · exact cmpL_trans _ _ _ (ht a ha) (hd b hb)
theorem cut_sub {α : Type} (L : List α) (k : Nat) : (cutI L k).Sublist L := by
  unfold cutI
  conv => rhs; rw [← List.take_append_drop k L]
  exact List.Sublist.append (List.Sublist.refl _) (by rw [← List.drop_drop]; exact List.drop_sublist _ _)
theorem srt_cut {L : List By} {k : Nat} (hs : Srt L) : Srt (cutI L k) := srt_pw.2 ((srt_pw.1 hs).sublist (cut_sub L k))
theorem mem_cut {L : List By} {p x : By} {k : Nat} (hs : Srt L) (hk : k < L.length) (hp : L[k] = p) : x ∈ cutI L k ↔ x ∈ L ∧ x ≠ p := by
  have hne : ∀ j (hj : j < L.length), j ≠ k → L[j] ≠ p := fun j hj hjk e => by
    have h0 := cmpL_self p
    rcases Nat.lt_or_gt_of_ne hjk with h | h
    · have := cmpL_chain hs k j hk h; rw [e, hp] at this; omega
    · have := cmpL_chain hs j k hj h; rw [e, hp] at this; omega
  constructor
  · intro h
    refine ⟨(cut_sub L k).subset h, ?_⟩
    unfold cutI at h
    rcases List.mem_append.1 h with h | h
    · obtain ⟨j, hj, rfl⟩ := List.getElem_of_mem h
      rw [List.length_take] at hj
      rw [List.getElem_take]
      exact hne j (by omega) (by omega)
    · obtain ⟨j, hj, rfl⟩ := List.getElem_of_mem h
      rw [List.length_drop] at hj
      rw [List.getElem_drop]
      exact hne _ (by omega) (by omega)
  · rintro ⟨h, hx⟩
    obtain ⟨j, hj, rfl⟩ := List.getElem_of_mem h
    have hjk : j ≠ k := fun e => hx (by subst e; exact hp)
    unfold cutI
    rw [List.mem_append]
    rcases Nat.lt_or_gt_of_ne hjk with h1 | h1
    · exact .inl (List.mem_take_iff_getElem.2 ⟨j, by omega, rfl⟩)
    · exact .inr (List.mem_drop_iff_getElem.2 ⟨j - (k + 1), by omega, by congr 1; omega⟩)
theorem map_cut {α β : Type} (f : α → β) (L : List α) (k : Nat) : (cutI L k).map f = cutI (L.map f) k := by
  unfold cutI
  rw [List.map_append, List.map_take, List.map_drop]
theorem cut_len {α : Type} {L : List α} {k : Nat} (hk : k < L.length) : (cutI L k).length + 1 = L.length := by
  unfold cutI
  rw [List.length_append, List.length_take, List.length_drop]; omega
theorem low_at {L : List By} {p : By} (hs : Srt L) (h : p ∈ L) : ∃ hk : low L p < L.length, L[low L p] = p := by
  obtain ⟨h1, h2⟩ := low_spec hs p
  obtain ⟨hk, e⟩ := (has_eq hs h1 h2).1 h
  exact ⟨hk, (cmpL_zero _ _).1 e⟩
theorem okI_iff {I : List (By × By)} : OkI I ↔ (∀ x ∈ I, (1 ≤ x.1.length ∧ x.1.length ≤ 16) ∧ x.2.length ≤ 32) ∧ Srt (I.map Prod.fst) := by
  constructor
  · intro h
    refine ⟨fun x hx => ?_, h.srt⟩
    obtain ⟨i, hi, rfl⟩ := List.getElem_of_mem hx
    exact (h i hi).1
  · rintro ⟨h1, h2⟩ i hi
    refine ⟨h1 _ (List.getElem_mem hi), fun h0 => ?_⟩
    have := h2 i (by rw [List.length_map]; exact hi) h0
    rwa [List.getElem_map, List.getElem_map] at this
theorem incK_iff {L : List Ky} : IncK L ↔ Srt (L.map Subtype.val) := by
  constructor
  · exact IncK.srt
  · intro h i hi h0
    have := h i (by rw [List.length_map]; exact hi) h0
    rwa [List.getElem_map, List.getElem_map] at this
/-! The lists after an op. -/
theorem map_insK (L : List Ky) (u : Ky) : (L.take (low (L.map Subtype.val) u.1) ++ [u] ++ L.drop (low (L.map Subtype.val) u.1)).map Subtype.val = insL (L.map Subtype.val) u.1 := by
  simp [insL, List.map_take, List.map_drop]
theorem map_insI (I : List (By × By)) (p q : By) : (I.take (low (I.map Prod.fst) p) ++ [(p, q)] ++ I.drop (low (I.map Prod.fst) p)).map Prod.fst = insL (I.map Prod.fst) p := by
  simp [insL, List.map_take, List.map_drop]
theorem ins_len {α : Type} (L : List α) (x : α) (k : Nat) (hk : k ≤ L.length) : (L.take k ++ [x] ++ L.drop k).length = L.length + 1 := by
  simp only [List.length_append, List.length_take, List.length_drop, List.length_singleton]; omega
theorem addS_spec {L : List Ky} {u : Ky} {m : Nat} (h : IncK L) : IncK (addS L u m).1 ∧ ((addS L u m).2 = false → (addS L u m).1 = L) ∧ ((addS L u m).2 = true → u ∉ L ∧ L.length < m ∧ (addS L u m).1.length = L.length + 1 ∧ ∀ x, x ∈ (addS L u m).1 ↔ x = u ∨ x ∈ L) := by
  unfold addS
  by_cases hc : u ∈ L ∨ m ≤ L.length
  · rw [if_pos hc]
    exact ⟨h, fun _ => rfl, fun e => by cases e⟩
  · rw [if_neg hc]
    have hu : u ∉ L := fun e => hc (.inl e)
    have hlow : low (L.map Subtype.val) u.1 ≤ L.length := by have := low_le (L.map Subtype.val) u.1; rwa [List.length_map] at this
    refine ⟨?_, fun e => (by cases e), fun _ => ⟨hu, by omega, ins_len L u _ hlow, fun x => ?_⟩⟩
    · rw [incK_iff, map_insK]
      exact srt_insL h.srt (fun e => hu ((mem_val u L).1 e))
    · rw [← mem_val, map_insK, mem_insL, mem_val]
      exact or_congr_left Subtype.ext_iff.symm
theorem dropS_spec {L : List Ky} {u : Ky} {m : Nat} (h : IncK L) : IncK (dropS L u m).1 ∧ ((dropS L u m).2 = false → (dropS L u m).1 = L) ∧ ((dropS L u m).2 = true → u ∈ L ∧ m < L.length ∧ (dropS L u m).1.length + 1 = L.length ∧ ∀ x, x ∈ (dropS L u m).1 ↔ x ∈ L ∧ x ≠ u) := by
  unfold dropS
  by_cases hc : u ∉ L ∨ L.length ≤ m
  · rw [if_pos hc]
    exact ⟨h, fun _ => rfl, fun e => by cases e⟩
  · rw [if_neg hc]
    have hu : u ∈ L := Decidable.not_not.1 (fun e => hc (.inl e))
    have hs := h.srt
    obtain ⟨hk, e1⟩ := low_at hs ((mem_val u L).2 hu)
    have hk2 : low (L.map Subtype.val) u.1 < L.length := by rwa [List.length_map] at hk
    refine ⟨?_, fun e => (by cases e), fun _ => ⟨hu, by omega, cut_len hk2, fun x => ?_⟩⟩
    · rw [incK_iff, map_cut]
      exact srt_cut hs
    · rw [← mem_val, map_cut, mem_cut hs hk e1, mem_val]
      exact and_congr_right fun _ => not_congr Subtype.ext_iff.symm
theorem set_same {α : Type} {L : List α} {k : Nat} {p : α} (hk : k < L.length) (e : L[k] = p) : L.set k p = L := by
  subst e
  exact List.set_getElem_self hk
theorem putS_spec {I : List (By × By)} {p q : By} (h : OkI I) (hp : 1 ≤ p.length ∧ p.length ≤ 16) (hq : q.length ≤ 32) : OkI (putS I p q).1 ∧ ((putS I p q).2 = false → (putS I p q).1 = I) ∧ (I.length ≤ 1024 → (putS I p q).1.length ≤ 1024) ∧ ((putS I p q).2 = true → (p, q) ∈ (putS I p q).1 ∧ ∀ x v, x ≠ p → ((x, v) ∈ (putS I p q).1 ↔ (x, v) ∈ I)) := by
  obtain ⟨h1, hs⟩ := okI_iff.1 h
  unfold putS
  by_cases hc : p ∈ I.map Prod.fst
  · rw [if_pos hc]
    obtain ⟨hk, e1⟩ := mem_low hs hc
    have hmem : ∀ y, y ∈ I.set (low (I.map Prod.fst) p) (p, q) → y = (p, q) ∨ y ∈ I := fun y hy => (List.mem_or_eq_of_mem_set hy).symm
    refine ⟨okI_iff.2 ⟨fun x hx => ?_, ?_⟩, fun e => (by cases e), fun hl => by rw [List.length_set]; exact hl, fun _ => ⟨List.mem_set hk _, fun x v hx => ⟨fun hm => ?_, fun hm => ?_⟩⟩⟩
    · rcases hmem x hx with rfl | hx
      · exact ⟨hp, hq⟩
      · exact h1 x hx
    · rw [List.map_set]
      have e2 : (I.map Prod.fst)[low (I.map Prod.fst) p]'(by rw [List.length_map]; exact hk) = p := by rw [List.getElem_map]; exact e1
      have e3 := set_same (by rw [List.length_map]; exact hk) e2
      show Srt ((I.map Prod.fst).set (low (I.map Prod.fst) p) p)
      rw [e3]; exact hs
    · rcases hmem _ hm with e | hm
      · injection e with e; exact absurd e hx
      · exact hm
    · obtain ⟨j, hj, e⟩ := List.getElem_of_mem hm
      have hjk : low (I.map Prod.fst) p ≠ j := fun e2 => hx (by subst e2; rw [← e1, e])
      rw [List.mem_iff_getElem]
      exact ⟨j, by rw [List.length_set]; exact hj, by rw [List.getElem_set, if_neg hjk, e]⟩
  · rw [if_neg hc]
    by_cases hf : 1024 ≤ I.length
    · rw [if_pos hf]
      exact ⟨h, fun _ => rfl, fun hl => hl, fun e => by cases e⟩
    · rw [if_neg hf]
      have hlow : low (I.map Prod.fst) p ≤ I.length := by have := low_le (I.map Prod.fst) p; rwa [List.length_map] at this
      have hmem : ∀ y, y ∈ I.take (low (I.map Prod.fst) p) ++ [(p, q)] ++ I.drop (low (I.map Prod.fst) p) ↔ y = (p, q) ∨ y ∈ I := fun y => by
        rw [List.mem_append, List.mem_append, List.mem_singleton]
        have e : y ∈ I ↔ y ∈ I.take (low (I.map Prod.fst) p) ∨ y ∈ I.drop (low (I.map Prod.fst) p) := by
          conv => lhs; rw [← List.take_append_drop (low (I.map Prod.fst) p) I]
          exact List.mem_append
        rw [e]
        constructor
        · rintro ((h | h) | h)
          · exact .inr (.inl h)
          · exact .inl h
          · exact .inr (.inr h)
        · rintro (h | h | h)
          · exact .inl (.inr h)
          · exact .inl (.inl h)
          · exact .inr h
      refine ⟨okI_iff.2 ⟨fun x hx => ?_, ?_⟩, fun e => (by cases e), fun hl => by rw [ins_len I _ _ hlow]; omega, fun _ => ⟨(hmem _).2 (.inl rfl), fun x v hx => ?_⟩⟩
      · rcases (hmem x).1 hx with rfl | hx
        · exact ⟨hp, hq⟩
        · exact h1 x hx
      · rw [map_insI]
        exact srt_insL hs hc
      · rw [hmem]
        exact ⟨fun e => e.elim (fun e => by injection e with e; exact absurd e hx) id, .inr⟩
theorem delS_spec {I : List (By × By)} {p : By} (h : OkI I) : OkI (delS I p).1 ∧ ((delS I p).2 = false → (delS I p).1 = I) ∧ (delS I p).1.length ≤ I.length ∧ ((delS I p).2 = true → p ∉ (delS I p).1.map Prod.fst ∧ ∀ x v, x ≠ p → ((x, v) ∈ (delS I p).1 ↔ (x, v) ∈ I)) := by
  obtain ⟨h1, hs⟩ := okI_iff.1 h
  unfold delS
  by_cases hc : p ∈ I.map Prod.fst
  · rw [if_pos hc]
    obtain ⟨hk, e1⟩ := mem_low hs hc
    obtain ⟨hk2, e2⟩ := low_at hs hc
    refine ⟨okI_iff.2 ⟨fun x hx => h1 x ((cut_sub _ _).subset hx), by rw [map_cut]; exact srt_cut hs⟩, fun e => (by cases e), by have := cut_len hk; show (cutI I _).length ≤ I.length; omega, fun _ => ⟨fun hm => ?_, fun x v hx => ⟨fun hm => (cut_sub _ _).subset hm, fun hm => ?_⟩⟩⟩
    · rw [map_cut, mem_cut hs hk2 e2] at hm
      exact hm.2 rfl
    · obtain ⟨j, hj, e⟩ := List.getElem_of_mem hm
      have hjk : j ≠ low (I.map Prod.fst) p := fun e3 => hx (by subst e3; rw [← e1, e])
      unfold cutI
      rw [List.mem_append]
      rcases Nat.lt_or_gt_of_ne hjk with h2 | h2
      · exact .inl (List.mem_take_iff_getElem.2 ⟨j, by omega, e⟩)
      · exact .inr (List.mem_drop_iff_getElem.2 ⟨j - (low (I.map Prod.fst) p + 1), by omega, by rw [← e]; congr 1; omega⟩)
  · rw [if_neg hc]
    exact ⟨h, fun _ => rfl, Nat.le_refl _, fun e => by cases e⟩
end Go.Proofs.YtahkeoegbjopfaaGreat
/-
  Plain laws of chapter 22: what a step does to a valid state, what Get answers then.
-/
namespace Go.Proofs.YtahkeoegbjopfaaGreat
set_option maxRecDepth 100000
open Go.RowKit
theorem get_not {I : List (By × By)} {X Y : List Ky} {p : By} (h : p ∉ I.map Prod.fst) : getS I X Y p = ([], false) := by
  unfold getS
  rw [if_neg (fun e => h e.2)]
theorem get_mem {I : List (By × By)} {X Y : List Ky} {p v : By} (h : OkSt I X Y) (hm : (p, v) ∈ I) : getS I X Y p = (v, true) := by
  have hs : Srt (I.map Prod.fst) := (okI_iff.1 h.2.2.1).2
  have hp : p ∈ I.map Prod.fst := List.mem_map.2 ⟨(p, v), hm, rfl⟩
  unfold getS
  rw [if_pos ⟨h, hp⟩]
  obtain ⟨j, hj, e⟩ := List.getElem_of_mem hm
  obtain ⟨hl, e1⟩ := mem_low hs hp
  have hlj : low (I.map Prod.fst) p = j := by
    have h1 := (srt_pw.1 hs)
    rw [List.pairwise_iff_getElem] at h1
    rcases Nat.lt_trichotomy (low (I.map Prod.fst) p) j with h2 | h2 | h2
    · have := h1 _ _ (by rw [List.length_map]; exact hl) (by rw [List.length_map]; exact hj) h2
      rw [List.getElem_map, List.getElem_map, e1, e] at this
      exact absurd this (by rw [cmpR, cmpL_self]; omega)
    · exact h2
    · have := h1 _ _ (by rw [List.length_map]; exact hj) (by rw [List.length_map]; exact hl) h2
      rw [List.getElem_map, List.getElem_map, e1, e] at this
      exact absurd this (by rw [cmpR, cmpL_self]; omega)
  have : valI I p = v := by
    unfold valI
    rw [hlj, List.getElem?_eq_getElem hj, e]
    rfl
  rw [this]
theorem get_same {I J : List (By × By)} {X Y X' Y' : List Ky} {p : By} (h : OkSt I X Y) (h' : OkSt J X' Y') (hm : ∀ v, (p, v) ∈ J ↔ (p, v) ∈ I) : getS J X' Y' p = getS I X Y p := by
  by_cases hc : p ∈ I.map Prod.fst
  · obtain ⟨⟨p', v⟩, hv, e⟩ := List.mem_map.1 hc
    obtain rfl : p' = p := e
    rw [get_mem h hv, get_mem h' ((hm v).2 hv)]
  · have hc2 : p ∉ J.map Prod.fst := fun h2 => by
      obtain ⟨⟨p', v⟩, hv, e⟩ := List.mem_map.1 h2
      obtain rfl : p' = p := e
      exact hc (List.mem_map.2 ⟨(p', v), (hm v).1 hv, rfl⟩)
    rw [get_not hc, get_not hc2]
/-- What a step does. -/
structure StepW (S : Stt) (o : Opn) (T : Stt) : Prop where
  get : ∀ p, p ≠ o.2.1 → ∀ v, (p, v) ∈ T.1 ↔ (p, v) ∈ S.1
  k1 : o.1 = 1 → (o.2.1, o.2.2.1) ∈ T.1
  k2 : o.1 = 2 → o.2.1 ∉ T.1.map Prod.fst ∧ o.2.1 ∈ S.1.map Prod.fst
  k36 : o.1 ≠ 1 → o.1 ≠ 2 → T.1 = S.1
  k3 : o.1 = 3 → o.2.2.2 ∈ T.2.1 ∧ o.2.2.2 ∉ S.2.1
  k4 : o.1 = 4 → o.2.2.2 ∉ T.2.1 ∧ o.2.2.2 ∈ S.2.1
  k5 : o.1 = 5 → o.2.2.2 ∈ T.2.2 ∧ o.2.2.2 ∉ S.2.2 ∧ T.2.2.length = S.2.2.length + 1
  k6 : o.1 ≠ 1 → o.1 ≠ 2 → o.1 ≠ 3 → o.1 ≠ 4 → o.1 ≠ 5 → o.2.2.2 ∉ T.2.2 ∧ o.2.2.2 ∈ S.2.2 ∧ T.2.2.length + 1 = S.2.2.length
theorem delS_mem {I : List (By × By)} {p : By} (h : (delS I p).2 = true) : p ∈ I.map Prod.fst := by
  unfold delS at h
  split at h
  · assumption
  · cases h
theorem stepS_spec {S : Stt} {wr : Ky} {o : Opn} (h : OkSt S.1 S.2.1 S.2.2) : OkSt (stepS S wr o).1.1 (stepS S wr o).1.2.1 (stepS S wr o).1.2.2 ∧ ((stepS S wr o).2 = false → (stepS S wr o).1 = S) ∧ ((stepS S wr o).2 = true → StepW S o (stepS S wr o).1) := by
  obtain ⟨I, X, Y⟩ := S
  obtain ⟨k, p, q, u⟩ := o
  obtain ⟨⟨h1, h2⟩, ⟨h3, h4⟩, h5, h6, h7⟩ := id h
  unfold stepS stS
  rw [if_pos h]
  dsimp only at h1 h2 h3 h4 h5 h6 h7 ⊢
  by_cases hm : mayS (I, X, Y) wr k p.length q.length u
  · rw [if_pos hm]
    obtain ⟨m1, m2, m3⟩ := hm
    unfold okOp at m1
    simp only [Bool.and_eq_true, decide_eq_true_eq] at m1
    obtain ⟨⟨ma, mb⟩, mg⟩ := m1
    unfold doS
    dsimp only
    by_cases e1 : k = 1
    · subst e1
      obtain ⟨g1, g2, g3, _⟩ := goodS_1 mg
      obtain ⟨p1, p2, p3, p4⟩ := putS_spec (p := p) (q := q) h5 ⟨g1, g2⟩ g3
      rw [if_pos rfl]
      refine ⟨⟨⟨p3 h1, h2⟩, ⟨h3, h4⟩, p1, h6, h7⟩, fun e => by rw [p2 e], fun e => ?_⟩
      obtain ⟨q1, q2⟩ := p4 e
      exact ⟨fun x hx v => q2 x v hx, fun _ => q1, fun e => (by simp at e), fun e => absurd rfl e, fun e => (by simp at e), fun e => (by simp at e), fun e => (by simp at e), fun e => absurd rfl e⟩
    rw [if_neg e1]
    by_cases e2 : k = 2
    · subst e2
      obtain ⟨p1, p2, p3, p4⟩ := delS_spec (p := p) h5
      rw [if_pos rfl]
      refine ⟨⟨⟨by show (delS I p).1.length ≤ 1024; omega, h2⟩, ⟨h3, h4⟩, p1, h6, h7⟩, fun e => by rw [p2 e], fun e => ?_⟩
      obtain ⟨q1, q2⟩ := p4 e
      exact ⟨fun x hx v => q2 x v hx, fun e => (by simp at e), fun _ => ⟨q1, delS_mem e⟩, fun _ e => absurd rfl e, fun e => (by simp at e), fun e => (by simp at e), fun e => (by simp at e), fun _ e => absurd rfl e⟩
    rw [if_neg e2]
    by_cases e3 : k = 3
    · subst e3
      obtain ⟨p1, p2, p3⟩ := addS_spec (u := u) (m := 16) h6
      rw [if_pos rfl]
      refine ⟨⟨⟨h1, ?_⟩, ⟨h3, h4⟩, h5, p1, h7⟩, fun e => by rw [p2 e], fun e => ?_⟩
      · show (addS X u 16).1.length ≤ 16
        cases hb : (addS X u 16).2
        · rw [p2 hb]; exact h2
        · have := (p3 hb).2.1; have := (p3 hb).2.2.1; omega
      · obtain ⟨q1, q2, q3, q4⟩ := p3 e
        exact ⟨fun x hx v => Iff.rfl, fun e => (by simp at e), fun e => (by simp at e), fun _ _ => rfl, fun _ => ⟨(q4 u).2 (.inl rfl), q1⟩, fun e => (by simp at e), fun e => (by simp at e), fun _ _ e => absurd rfl e⟩
    rw [if_neg e3]
    by_cases e4 : k = 4
    · subst e4
      obtain ⟨p1, p2, p3⟩ := dropS_spec (u := u) (m := 0) h6
      rw [if_pos rfl]
      refine ⟨⟨⟨h1, ?_⟩, ⟨h3, h4⟩, h5, p1, h7⟩, fun e => by rw [p2 e], fun e => ?_⟩
      · show (dropS X u 0).1.length ≤ 16
        cases hb : (dropS X u 0).2
        · rw [p2 hb]; exact h2
        · have := (p3 hb).2.2.1; omega
      · obtain ⟨q1, q2, q3, q4⟩ := p3 e
        exact ⟨fun x hx v => Iff.rfl, fun e => (by simp at e), fun e => (by simp at e), fun _ _ => rfl, fun e => (by simp at e), fun _ => ⟨fun hu => ((q4 u).1 hu).2 rfl, q1⟩, fun e => (by simp at e), fun _ _ _ e => absurd rfl e⟩
    rw [if_neg e4]
    by_cases e5 : k = 5
    · subst e5
      obtain ⟨p1, p2, p3⟩ := addS_spec (u := u) (m := 16) h7
      rw [if_pos rfl]
      refine ⟨⟨⟨h1, h2⟩, ?_, h5, h6, p1⟩, fun e => by rw [p2 e], fun e => ?_⟩
      · show 1 ≤ (addS Y u 16).1.length ∧ (addS Y u 16).1.length ≤ 16
        cases hb : (addS Y u 16).2
        · rw [p2 hb]; exact ⟨h3, h4⟩
        · have := (p3 hb).2.1; have := (p3 hb).2.2.1; omega
      · obtain ⟨q1, q2, q3, q4⟩ := p3 e
        exact ⟨fun x hx v => Iff.rfl, fun e => (by simp at e), fun e => (by simp at e), fun _ _ => rfl, fun e => (by simp at e), fun e => (by simp at e), fun _ => ⟨(q4 u).2 (.inl rfl), q1, q3⟩, fun _ _ _ _ e => absurd rfl e⟩
    rw [if_neg e5]
    obtain ⟨p1, p2, p3⟩ := dropS_spec (u := u) (m := 1) h7
    refine ⟨⟨⟨h1, h2⟩, ?_, h5, h6, p1⟩, fun e => by rw [p2 e], fun e => ?_⟩
    · show 1 ≤ (dropS Y u 1).1.length ∧ (dropS Y u 1).1.length ≤ 16
      cases hb : (dropS Y u 1).2
      · rw [p2 hb]; exact ⟨h3, h4⟩
      · have := (p3 hb).2.1; have := (p3 hb).2.2.1; omega
    · obtain ⟨q1, q2, q3, q4⟩ := p3 e
      exact ⟨fun x hx v => Iff.rfl, fun e => absurd e e1, fun e => absurd e e2, fun _ _ => rfl, fun e => absurd e e3, fun e => absurd e e4, fun e => absurd e e5, fun _ _ _ _ _ => ⟨fun hu => ((q4 u).1 hu).2 rfl, q1, q3⟩⟩
  · rw [if_neg hm]
    exact ⟨h, fun _ => rfl, fun e => by cases e⟩
theorem stepS_kind {S : Stt} {wr : Ky} {o : Opn} (h : (stepS S wr o).2 = true) : o.1 = 1 ∨ o.1 = 2 ∨ o.1 = 3 ∨ o.1 = 4 ∨ o.1 = 5 ∨ o.1 = 6 := by
  unfold stepS stS at h
  split at h
  · split at h
    · rename_i hm
      have h1 := hm.1
      unfold okOp at h1
      simp only [Bool.and_eq_true, decide_eq_true_eq] at h1
      omega
    · cases h
  · cases h
end Go.Proofs.YtahkeoegbjopfaaGreat
