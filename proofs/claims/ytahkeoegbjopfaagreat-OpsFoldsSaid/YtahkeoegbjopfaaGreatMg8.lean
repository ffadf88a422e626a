/-
  Walks of the kit's functions: states compared, copied.
-/
import Derived.Test.YtahkeoegbjopfaaGreatMg7
namespace Go.Proofs.YtahkeoegbjopfaaGreat
set_option maxRecDepth 100000
open Go.RowKit
theorem C_kOwn {A : Option Addr} {p : By} {n c : Nat} (w : World) (hp : Rd w A p) (hn : n = p.length) (hl : p.length ≤ 4000000000) :
  CallsR Tryz.prog 14 [.slice A n c] w fun v w' => ∃ A' c', v = .slice A' p.length c' ∧ OwnH w' w.heap.size w'.heap.size A' c' p ∧ Below w.heap.size w w' := by
 subst hn
 refine callsR Tryz.func14 rfl rfl (by kernel_rfl) rfl ?_
 have hw := Below.refl w.heap.size w
 refine rk_seq ?_
 refine rk_region ?_
 refine wl_p (fun _ => o_assign rfl) ?_
 refine wl_nil ?_
 refine rk_seq ?_
 refine rk_region ?_
 refine wl_litB [] Tryz.u8 Tryz.sizeOf5 Tryz.zeroValue5 (by rfl) rfl rfl (by rfl) (by rfl) (by rfl) ?_
 rintro A3 w3 f3 b3
 have qf3 := f3.cap
 have s3 := b3.size
 replace hw := hw.trans (b3.mono hw.size)
 refine wl_p (fun _ => o_move rfl) ?_
 refine wl_appB Tryz.u8 rfl f3 (by rfl) rfl (hp.u hw) rfl (by omega) hw.size ?_
 rintro A5 c5 w5 f5 g5 b5 i5
 have qf5 := f5.cap
 have s5 := g5.size
 replace hw := hw.trans (b5.mono (by omega))
 clear f3
 refine wl_p (fun _ => o_assign rfl) ?_
 refine wl_nil ?_
 rw [List.nil_append] at f5 ⊢
 refine ret1 rfl rfl ?_
 exact ⟨_, _, rfl, f5, hw⟩
theorem C_kItem {A1 A2 B1 B2 : Option Addr} {a1 a2 b1 b2 : By} {c1 c2 d1 d2 n1 n2 m1 m2 : Nat} (w : World) (h1 : Rd w A1 a1) (h2 : Rd w A2 a2) (h3 : Rd w B1 b1) (h4 : Rd w B2 b2) (e1 : n1 = a1.length) (e2 : n2 = a2.length) (e3 : m1 = b1.length) (e4 : m2 = b2.length) :
  CallsR Tryz.prog 89 [.agg #[.slice A1 n1 c1, .slice A2 n2 c2], .agg #[.slice B1 m1 d1, .slice B2 m2 d2]] w fun v w' => v = .bool (decide ((a1, a2) = (b1, b2))) ∧ Below w.heap.size w w' := by
 subst e1; subst e2; subst e3; subst e4
 refine callsR Tryz.func89 rfl rfl (by kernel_rfl) rfl ?_
 have hw := Below.refl w.heap.size w
 by_cases ha : a1 = b1
 ·refine rk_seq ?_
  refine rk_region ?_
  refine wl_boxg [_, _] rfl (by rfl) ?_
  rintro g2 w2 f2 b2_1 i2 i2_1
  have s2 := b2_1.size
  replace hw := hw.trans (b2_1.mono hw.size)
  refine wl_boxg [_, _] rfl (by rfl) ?_
  rintro g3 w3 f3 b3 i3 i3_1
  have s3 := b3.size
  replace hw := hw.trans (b3.mono hw.size)
  replace f2 := f2.u b3
  refine wl_p (fun _ => o_assign rfl) ?_
  refine wl_nil ?_
  refine rk_seq ?_
  refine rk_region ?_
  refine wl_p (fun _ => o_faddr (s := 94) (i := 0) (off := 0) Tryz.underlying94 rfl Tryz.sizeOf39 rfl rfl rfl) ?_
  refine wl_r (o_loadbg Tryz.isAgg39 rfl f2 (by rfl)) ?_
  refine wl_r (o_strU Tryz.underlying39 Tryz.underlying5 Tryz.underlying9 rfl h1 hw rfl) ?_
  refine wl_p (fun _ => o_faddr (s := 94) (i := 0) (off := 0) Tryz.underlying94 rfl Tryz.sizeOf39 rfl rfl rfl) ?_
  refine wl_r (o_loadbg Tryz.isAgg39 rfl f3 (by rfl)) ?_
  refine wl_r (o_strU Tryz.underlying39 Tryz.underlying5 Tryz.underlying9 rfl h3 hw rfl) ?_
  refine wl_p (fun _ => o_seq rfl rfl) ?_
  refine wl_p (fun _ => o_move rfl) ?_
  refine wl_know 12 true rfl (decide_eq_true (by omega)) ?_
  refine wl_p (fun _ => o_faddr (s := 94) (i := 1) (off := 1) Tryz.underlying94 rfl Tryz.sizeOf39 rfl rfl rfl) ?_
  refine wl_r (o_loadbg Tryz.isAgg39 rfl f2 (by rfl)) ?_
  refine wl_r (o_strU Tryz.underlying39 Tryz.underlying5 Tryz.underlying9 rfl h2 hw rfl) ?_
  refine wl_p (fun _ => o_faddr (s := 94) (i := 1) (off := 1) Tryz.underlying94 rfl Tryz.sizeOf39 rfl rfl rfl) ?_
  refine wl_r (o_loadbg Tryz.isAgg39 rfl f3 (by rfl)) ?_
  refine wl_r (o_strU Tryz.underlying39 Tryz.underlying5 Tryz.underlying9 rfl h4 hw rfl) ?_
  refine wl_p (fun _ => o_seq rfl rfl) ?_
  refine wl_p (fun _ => o_pick_t rfl rfl) ?_
  refine wl_p (fun _ => o_assign rfl) ?_
  refine wl_nil ?_
  refine ret1 rfl rfl ?_
  exact ⟨by simp [ha], hw⟩
 ·refine rk_seq ?_
  refine rk_region ?_
  refine wl_boxg [_, _] rfl (by rfl) ?_
  rintro g2 w2 f2 b2_1 i2 i2_1
  have s2 := b2_1.size
  replace hw := hw.trans (b2_1.mono hw.size)
  refine wl_boxg [_, _] rfl (by rfl) ?_
  rintro g3 w3 f3 b3 i3 i3_1
  have s3 := b3.size
  replace hw := hw.trans (b3.mono hw.size)
  replace f2 := f2.u b3
  refine wl_p (fun _ => o_assign rfl) ?_
  refine wl_nil ?_
  refine rk_seq ?_
  refine rk_region ?_
  refine wl_p (fun _ => o_faddr (s := 94) (i := 0) (off := 0) Tryz.underlying94 rfl Tryz.sizeOf39 rfl rfl rfl) ?_
  refine wl_r (o_loadbg Tryz.isAgg39 rfl f2 (by rfl)) ?_
  refine wl_r (o_strU Tryz.underlying39 Tryz.underlying5 Tryz.underlying9 rfl h1 hw rfl) ?_
  refine wl_p (fun _ => o_faddr (s := 94) (i := 0) (off := 0) Tryz.underlying94 rfl Tryz.sizeOf39 rfl rfl rfl) ?_
  refine wl_r (o_loadbg Tryz.isAgg39 rfl f3 (by rfl)) ?_
  refine wl_r (o_strU Tryz.underlying39 Tryz.underlying5 Tryz.underlying9 rfl h3 hw rfl) ?_
  refine wl_p (fun _ => o_seq rfl rfl) ?_
  refine wl_p (fun _ => o_move rfl) ?_
  refine wl_know 12 false rfl (decide_eq_false (by omega)) ?_
  refine wl_off ?_
  refine wl_off ?_
  refine wl_off ?_
  refine wl_off ?_
  refine wl_off ?_
  refine wl_off ?_
  refine wl_off ?_
  refine wl_p (fun _ => o_pick_f rfl rfl) ?_
  refine wl_p (fun _ => o_assign rfl) ?_
  refine wl_nil ?_
  refine ret1 rfl rfl ?_
  exact ⟨by simp [ha], hw⟩
theorem C_kItems {A B : Option Addr} {L M : List (By × By)} {n c m d : Nat} (w : World) (hA : RI w A L) (hB : RI w B M) (hn : n = L.length) (hm : m = M.length) (hl : L.length ≤ 4000000) (hl2 : M.length ≤ 4000000) :
  CallsR Tryz.prog 47 [.slice A n c, .slice B m d] w fun v w' => v = .bool (decide (L = M)) ∧ Below w.heap.size w w' := by
 subst hn; subst hm
 refine callsR Tryz.func47 rfl rfl (by kernel_rfl) rfl ?_
 have hw := Below.refl w.heap.size w
 refine rk_seq ?_
 refine rk_region ?_
 refine wl_p (fun _ => o_assign rfl) ?_
 refine wl_nil ?_
 refine rk_seq ?_
 refine rk_seq ?_
 refine rk_region ?_
 refine wl_p (fun _ => o_move rfl) ?_
 refine wl_p (fun _ => o_len (t := 28) Tryz.underlying28 rfl) ?_
 refine wl_p (fun _ => o_move rfl) ?_
 refine wl_p (fun _ => o_len (t := 28) Tryz.underlying28 rfl) ?_
 refine wl_p (fun _ => o_ne rfl rfl) ?_
 refine wl_nil ?_
 refine rk_if rfl (fun h10 => ?_) (fun h10 => ?_)
 ·refine rk_seq ?_
  refine rk_region ?_
  refine wl_p (fun _ => o_assign rfl) ?_
  refine wl_nil ?_
  refine ret1 rfl rfl ?_
  exact ⟨by rw [decide_eq_false (fun e : L = M => h10 (by rw [e]))], hw⟩
 refine rk_skip ?_
 refine rk_seq ?_
 refine rk_seq ?_
 refine rk_region ?_
 refine wl_p (fun _ => o_assign rfl) ?_
 refine wl_nil ?_
 refine rk_block ?_
 refine rk_joinf (fun fb fr w2 => fr = [] ++ fb.drop 1 ∧ L = M ∧ Below w.heap.size w w2) ?_ (fun ks hj => ?_)
 rotate_left
 ·refine rk_loopf (fun fb m fr w2 => ∃ (i : Nat) (v : Int), fr = [(5, .int .i64 v)] ++ fb.drop 1 ∧ v = i ∧ i ≤ L.length ∧ m = L.length - i ∧ L.take i = M.take i ∧ Below w.heap.size w w2) (n := L.length) (Fr.le_of (by kernel_rfl) (by kernel_rfl) (by repeat' constructor)) ⟨0, _, rfl, rfl, by omega, rfl, rfl, hw⟩ ?_
  clear hw
  rintro m fr w2 ⟨i, v, rfl, rfl, hi, rfl, ht, hw⟩
  have shw := hw.size
  first | refine rk_frame (by simp only [List.cons_append, List.nil_append, List.drop_succ_cons, List.drop_zero]; rfl) ?_ | refine wl_frame (by simp only [List.cons_append, List.nil_append, List.drop_succ_cons, List.drop_zero]; rfl) ?_
  refine rk_seq ?_
  refine rk_seq ?_
  refine rk_region ?_
  refine wl_p (fun _ => o_move rfl) ?_
  refine wl_p (fun _ => o_move rfl) ?_
  refine wl_p (fun _ => o_len (t := 28) Tryz.underlying28 rfl) ?_
  refine wl_p (fun _ => o_lt rfl rfl) ?_
  refine wl_nil ?_
  refine rk_if rfl (fun h14 => ?_) (fun h14 => ?_)
  ·have hiL : i < L.length := by omega
   have hiM : i < M.length := by omega
   by_cases he : (L[i].1, L[i].2) = (M[i].1, M[i].2)
   ·refine rk_skip ?_
    refine rk_seq ?_
    refine rk_block ?_
    refine rk_seq ?_
    refine rk_draw (id := 6) (none) [0, 0, 3, 4, 0, 0, 48, 64, 136, 256] [0, 0, 3, 7, 0, 0, 48, 112, 255, 511] 256 0 [(.p, 0), (.p, 1), (.p, 2), (.r, 3), (.p, 4), (.p, 5), (.p, 6), (.r, 7), (.l, 8), (.p, 9)] (by kernel_rfl) (by kernel_rfl) (by kernel_rfl) (by kernel_rfl) (by kernel_rfl) ?_
    replace hw := hw.drew
    refine wl_p (fun _ => o_move rfl) ?_
    refine wl_p (fun _ => o_move rfl) ?_
    refine wl_p (fun _ => (o_iaddrA (i) Tryz.underlying28 Tryz.sizeOf94 rfl rfl rfl (hA.some_ (by omega)) (by omega))) ?_
    refine wl_ldItem rfl hA hw (by omega) ?_
    rintro A120 c120 A220 c220 f20 f20_1 i20 i20_1
    refine wl_p (fun _ => o_move rfl) ?_
    refine wl_p (fun _ => o_move rfl) ?_
    refine wl_p (fun _ => (o_iaddrA (i) Tryz.underlying28 Tryz.sizeOf94 rfl rfl rfl (hB.some_ (by omega)) (by omega))) ?_
    refine wl_ldItem rfl hB hw (by omega) ?_
    rintro A124 c124 A224 c224 f24 f24_1 i24 i24_1
    refine wl_call rfl (C_kItem _ (f20.u hw) (f20_1.u hw) (f24.u hw) (f24_1.u hw) rfl rfl rfl rfl) ?_
    rintro v25 w25 ⟨rfl, b25⟩
    simp only [drew_size] at b25
    have s25 := b25.size
    simp only [drew_size] at s25
    replace hw := hw.trans (b25.mono hw.size)
    refine wl_p (fun _ => o_not rfl) ?_
    refine wl_nild ?_
    rw [decide_eq_true he]
    refine rk_false rfl ?_
    refine rk_skip ?_
    refine rk_blk ?_
    refine rk_region ?_
    refine wl_p (fun _ => o_move rfl) ?_
    refine wl_p (fun _ => o_add rfl rfl (by omega) (by omega)) ?_
    refine wl_p (fun _ => o_assign rfl) ?_
    refine wl_nil ?_
    exact rk_againf (Fr.le_of (by kernel_rfl) (by kernel_rfl) (by repeat' constructor)) ⟨i + 1, (i : Int) + 1, rfl, by omega, by omega, rfl, by rw [List.take_succ_eq_append_getElem hiL, List.take_succ_eq_append_getElem hiM, ht]; exact congrArg (fun x => M.take i ++ [x]) he, hw⟩ (by omega)
   ·refine rk_skip ?_
    refine rk_seq ?_
    refine rk_block ?_
    refine rk_seq ?_
    refine rk_draw (id := 6) (none) [0, 0, 3, 4, 0, 0, 48, 64, 136, 256] [0, 0, 3, 7, 0, 0, 48, 112, 255, 511] 256 0 [(.p, 0), (.p, 1), (.p, 2), (.r, 3), (.p, 4), (.p, 5), (.p, 6), (.r, 7), (.l, 8), (.p, 9)] (by kernel_rfl) (by kernel_rfl) (by kernel_rfl) (by kernel_rfl) (by kernel_rfl) ?_
    replace hw := hw.drew
    refine wl_p (fun _ => o_move rfl) ?_
    refine wl_p (fun _ => o_move rfl) ?_
    refine wl_p (fun _ => (o_iaddrA (i) Tryz.underlying28 Tryz.sizeOf94 rfl rfl rfl (hA.some_ (by omega)) (by omega))) ?_
    refine wl_ldItem rfl hA hw (by omega) ?_
    rintro A120 c120 A220 c220 f20 f20_1 i20 i20_1
    refine wl_p (fun _ => o_move rfl) ?_
    refine wl_p (fun _ => o_move rfl) ?_
    refine wl_p (fun _ => (o_iaddrA (i) Tryz.underlying28 Tryz.sizeOf94 rfl rfl rfl (hB.some_ (by omega)) (by omega))) ?_
    refine wl_ldItem rfl hB hw (by omega) ?_
    rintro A124 c124 A224 c224 f24 f24_1 i24 i24_1
    refine wl_call rfl (C_kItem _ (f20.u hw) (f20_1.u hw) (f24.u hw) (f24_1.u hw) rfl rfl rfl rfl) ?_
    rintro v25 w25 ⟨rfl, b25⟩
    simp only [drew_size] at b25
    have s25 := b25.size
    simp only [drew_size] at s25
    replace hw := hw.trans (b25.mono hw.size)
    refine wl_p (fun _ => o_not rfl) ?_
    refine wl_nild ?_
    rw [decide_eq_false he]
    refine rk_true rfl ?_
    refine rk_seq ?_
    refine rk_region ?_
    refine wl_p (fun _ => o_assign rfl) ?_
    refine wl_nil ?_
    refine ret1 rfl rfl ?_
    exact ⟨by rw [decide_eq_false (fun e : L = M => he (by subst e; rfl))], hw⟩
  ·refine rk_exit rfl ?_
   have e : L = M := by
    rw [List.take_of_length_le (by omega), List.take_of_length_le (by omega)] at ht
    exact ht
   exact rk_tof hj (Fr.le_of (by kernel_rfl) (by kernel_rfl) (by repeat' constructor)) ⟨rfl, e, hw⟩
 clear hw
 rintro fr w2 ⟨rfl, e, hw⟩
 first | refine rk_frame (by simp only [List.cons_append, List.nil_append, List.drop_succ_cons, List.drop_zero]; rfl) ?_ | refine wl_frame (by simp only [List.cons_append, List.nil_append, List.drop_succ_cons, List.drop_zero]; rfl) ?_
 refine rk_seq ?_
 refine rk_region ?_
 refine wl_p (fun _ => o_assign rfl) ?_
 refine wl_nil ?_
 refine ret1 rfl rfl ?_
 exact ⟨by rw [decide_eq_true e], hw⟩
theorem C_kKeys {A B : Option Addr} {L M : List Ky} {n c m d : Nat} (w : World) (hA : RKs w A L) (hB : RKs w B M) (hn : n = L.length) (hm : m = M.length) (hl : L.length ≤ 4000000) (hl2 : M.length ≤ 4000000) :
  CallsR Tryz.prog 27 [.slice A n c, .slice B m d] w fun v w' => v = .bool (decide (L = M)) ∧ Below w.heap.size w w' := by
 subst hn; subst hm
 refine callsR Tryz.func27 rfl rfl (by kernel_rfl) rfl ?_
 have hw := Below.refl w.heap.size w
 refine rk_seq ?_
 refine rk_region ?_
 refine wl_p (fun _ => o_assign rfl) ?_
 refine wl_nil ?_
 refine rk_seq ?_
 refine rk_seq ?_
 refine rk_region ?_
 refine wl_p (fun _ => o_move rfl) ?_
 refine wl_p (fun _ => o_len (t := 29) Tryz.underlying29 rfl) ?_
 refine wl_p (fun _ => o_move rfl) ?_
 refine wl_p (fun _ => o_len (t := 29) Tryz.underlying29 rfl) ?_
 refine wl_p (fun _ => o_ne rfl rfl) ?_
 refine wl_nil ?_
 refine rk_if rfl (fun h10 => ?_) (fun h10 => ?_)
 ·refine rk_seq ?_
  refine rk_region ?_
  refine wl_p (fun _ => o_assign rfl) ?_
  refine wl_nil ?_
  refine ret1 rfl rfl ?_
  exact ⟨by rw [decide_eq_false (fun e : L = M => h10 (by rw [e]))], hw⟩
 refine rk_skip ?_
 refine rk_seq ?_
 refine rk_seq ?_
 refine rk_region ?_
 refine wl_p (fun _ => o_assign rfl) ?_
 refine wl_nil ?_
 refine rk_block ?_
 refine rk_joinf (fun fb fr w2 => fr = [] ++ fb.drop 1 ∧ L = M ∧ Below w.heap.size w w2) ?_ (fun ks hj => ?_)
 rotate_left
 ·refine rk_loopf (fun fb m fr w2 => ∃ (i : Nat) (v : Int), fr = [(5, .int .i64 v)] ++ fb.drop 1 ∧ v = i ∧ i ≤ L.length ∧ m = L.length - i ∧ L.take i = M.take i ∧ Below w.heap.size w w2) (n := L.length) (Fr.le_of (by kernel_rfl) (by kernel_rfl) (by repeat' constructor)) ⟨0, _, rfl, rfl, by omega, rfl, rfl, hw⟩ ?_
  clear hw
  rintro m fr w2 ⟨i, v, rfl, rfl, hi, rfl, ht, hw⟩
  have shw := hw.size
  first | refine rk_frame (by simp only [List.cons_append, List.nil_append, List.drop_succ_cons, List.drop_zero]; rfl) ?_ | refine wl_frame (by simp only [List.cons_append, List.nil_append, List.drop_succ_cons, List.drop_zero]; rfl) ?_
  refine rk_seq ?_
  refine rk_seq ?_
  refine rk_region ?_
  refine wl_p (fun _ => o_move rfl) ?_
  refine wl_p (fun _ => o_move rfl) ?_
  refine wl_p (fun _ => o_len (t := 29) Tryz.underlying29 rfl) ?_
  refine wl_p (fun _ => o_lt rfl rfl) ?_
  refine wl_nil ?_
  refine rk_if rfl (fun h14 => ?_) (fun h14 => ?_)
  ·have hiL : i < L.length := by omega
   have hiM : i < M.length := by omega
   refine rk_skip ?_
   refine rk_seq ?_
   refine rk_block ?_
   refine rk_seq ?_
   refine rk_draw (id := 6) (none) [0, 0, 3, 4, 0, 0, 48, 64, 136] [0, 0, 3, 7, 0, 0, 48, 112, 255] 0 0 [(.p, 0), (.p, 1), (.p, 2), (.r, 3), (.p, 4), (.p, 5), (.p, 6), (.r, 7), (.p, 8)] (by kernel_rfl) (by kernel_rfl) (by kernel_rfl) (by kernel_rfl) (by kernel_rfl) ?_
   replace hw := hw.drew
   refine wl_p (fun _ => o_move rfl) ?_
   refine wl_p (fun _ => o_move rfl) ?_
   refine wl_p (fun _ => (o_iaddrA (i) Tryz.underlying29 Tryz.sizeOf42 rfl rfl rfl (hA.some_ (by omega)) (by omega))) ?_
   refine wl_r (o_ldKs rfl hA hw (by omega)) ?_
   refine wl_p (fun _ => o_move rfl) ?_
   refine wl_p (fun _ => o_move rfl) ?_
   refine wl_p (fun _ => (o_iaddrA (i) Tryz.underlying29 Tryz.sizeOf42 rfl rfl rfl (hB.some_ (by omega)) (by omega))) ?_
   refine wl_r (o_ldKs rfl hB hw (by omega)) ?_
   refine wl_p (fun _ => (o_neKy rfl rfl)) ?_
   refine wl_nild ?_
   refine rk_if rfl (fun h25 => ?_) (fun h25 => ?_)
   ·refine rk_seq ?_
    refine rk_region ?_
    refine wl_p (fun _ => o_assign rfl) ?_
    refine wl_nil ?_
    refine ret1 rfl rfl ?_
    exact ⟨by rw [decide_eq_false (fun e : L = M => h25 (by subst e; rfl))], hw⟩
   ·refine rk_skip ?_
    refine rk_blk ?_
    refine rk_region ?_
    refine wl_p (fun _ => o_move rfl) ?_
    refine wl_p (fun _ => o_add rfl rfl (by omega) (by omega)) ?_
    refine wl_p (fun _ => o_assign rfl) ?_
    refine wl_nil ?_
    exact rk_againf (Fr.le_of (by kernel_rfl) (by kernel_rfl) (by repeat' constructor)) ⟨i + 1, (i : Int) + 1, rfl, by omega, by omega, rfl, by rw [List.take_succ_eq_append_getElem hiL, List.take_succ_eq_append_getElem hiM, ht, Decidable.of_not_not h25], hw⟩ (by omega)
  ·refine rk_exit rfl ?_
   have e : L = M := by
    rw [List.take_of_length_le (by omega), List.take_of_length_le (by omega)] at ht
    exact ht
   exact rk_tof hj (Fr.le_of (by kernel_rfl) (by kernel_rfl) (by repeat' constructor)) ⟨rfl, e, hw⟩
 clear hw
 rintro fr w2 ⟨rfl, e, hw⟩
 first | refine rk_frame (by simp only [List.cons_append, List.nil_append, List.drop_succ_cons, List.drop_zero]; rfl) ?_ | refine wl_frame (by simp only [List.cons_append, List.nil_append, List.drop_succ_cons, List.drop_zero]; rfl) ?_
 refine rk_seq ?_
 refine rk_region ?_
 refine wl_p (fun _ => o_assign rfl) ?_
 refine wl_nil ?_
 refine ret1 rfl rfl ?_
 exact ⟨by rw [decide_eq_true e], hw⟩
theorem C_kState {A K B A2 K2 B2 : Option Addr} {L M : List (By × By)} {X Y X2 Y2 : List Ky} {n q m c e d n2 q2 m2 c2 e2 d2 : Nat} (w : World) (hA : RI w A L) (hK : RKs w K X) (hB : RKs w B Y) (hA2 : RI w A2 M) (hK2 : RKs w K2 X2) (hB2 : RKs w B2 Y2) (hn : n = L.length) (hq : q = X.length) (hm : m = Y.length) (hn2 : n2 = M.length) (hq2 : q2 = X2.length) (hm2 : m2 = Y2.length) (hl : L.length ≤ 4000000) (hl2 : M.length ≤ 4000000) (hl3 : X.length ≤ 4000000) (hl4 : Y.length ≤ 4000000) (hl5 : X2.length ≤ 4000000) (hl6 : Y2.length ≤ 4000000) :
  CallsR Tryz.prog 18 [.agg #[.slice A n c, .slice K q e, .slice B m d], .agg #[.slice A2 n2 c2, .slice K2 q2 e2, .slice B2 m2 d2]] w fun v w' => v = .bool (decide ((L, X, Y) = (M, X2, Y2))) ∧ Below w.heap.size w w' := by
 subst hn; subst hm; subst hn2; subst hm2; subst hq; subst hq2
 refine callsR Tryz.func18 rfl rfl (by kernel_rfl) rfl ?_
 have hw := Below.refl w.heap.size w
 by_cases h1 : L = M
 ·by_cases h2 : X = X2
  ·refine rk_seq ?_
   refine rk_region ?_
   refine wl_boxg [_, _, _] rfl (by rfl) ?_
   rintro g2 w2 f2 b2 i2 i2_1
   have s2 := b2.size
   replace hw := hw.trans (b2.mono hw.size)
   refine wl_boxg [_, _, _] rfl (by rfl) ?_
   rintro g3 w3 f3 b3 i3 i3_1
   have s3 := b3.size
   replace hw := hw.trans (b3.mono hw.size)
   replace f2 := f2.u b3
   refine wl_p (fun _ => o_assign rfl) ?_
   refine wl_nil ?_
   refine rk_seq ?_
   refine rk_region ?_
   refine wl_p (fun _ => o_faddr (s := 31) (i := 0) (off := 0) Tryz.underlying31 rfl Tryz.sizeOf28 rfl rfl rfl) ?_
   refine wl_r (o_loadbg Tryz.isAgg28 rfl f2 (by rfl)) ?_
   refine wl_p (fun _ => o_faddr (s := 31) (i := 0) (off := 0) Tryz.underlying31 rfl Tryz.sizeOf28 rfl rfl rfl) ?_
   refine wl_r (o_loadbg Tryz.isAgg28 rfl f3 (by rfl)) ?_
   refine wl_call rfl (C_kItems _ (hA.u hw) (hA2.u hw) rfl rfl (by omega) (by omega)) ?_
   rintro v9 w9 ⟨rfl, b9⟩
   have s9 := b9.size
   replace hw := hw.trans (b9.mono hw.size)
   replace f2 := f2.u b9
   replace f3 := f3.u b9
   refine wl_p (fun _ => o_move rfl) ?_
   refine wl_know 10 true rfl (decide_eq_true (by omega)) ?_
   refine wl_p (fun _ => o_faddr (s := 31) (i := 1) (off := 1) Tryz.underlying31 rfl Tryz.sizeOf29 rfl rfl rfl) ?_
   refine wl_r (o_loadbg Tryz.isAgg29 rfl f2 (by rfl)) ?_
   refine wl_p (fun _ => o_faddr (s := 31) (i := 1) (off := 1) Tryz.underlying31 rfl Tryz.sizeOf29 rfl rfl rfl) ?_
   refine wl_r (o_loadbg Tryz.isAgg29 rfl f3 (by rfl)) ?_
   refine wl_call rfl (C_kKeys _ (hK.u hw) (hK2.u hw) rfl rfl (by omega) (by omega)) ?_
   rintro v15 w15 ⟨rfl, b15⟩
   have s15 := b15.size
   replace hw := hw.trans (b15.mono hw.size)
   replace f3 := f3.u b15
   replace f2 := f2.u b15
   refine wl_p (fun _ => o_pick_t rfl rfl) ?_
   refine wl_p (fun _ => o_move rfl) ?_
   refine wl_know 17 true rfl (decide_eq_true (by omega)) ?_
   refine wl_p (fun _ => o_faddr (s := 31) (i := 2) (off := 2) Tryz.underlying31 rfl Tryz.sizeOf29 rfl rfl rfl) ?_
   refine wl_r (o_loadbg Tryz.isAgg29 rfl f2 (by rfl)) ?_
   refine wl_p (fun _ => o_faddr (s := 31) (i := 2) (off := 2) Tryz.underlying31 rfl Tryz.sizeOf29 rfl rfl rfl) ?_
   refine wl_r (o_loadbg Tryz.isAgg29 rfl f3 (by rfl)) ?_
   refine wl_call rfl (C_kKeys _ (hB.u hw) (hB2.u hw) rfl rfl (by omega) (by omega)) ?_
   rintro v22 w22 ⟨rfl, b22⟩
   have s22 := b22.size
   replace hw := hw.trans (b22.mono hw.size)
   replace f2 := f2.u b22
   replace f3 := f3.u b22
   refine wl_p (fun _ => o_pick_t rfl rfl) ?_
   refine wl_p (fun _ => o_assign rfl) ?_
   refine wl_nil ?_
   refine ret1 rfl rfl ?_
   exact ⟨by simp [h1, h2], hw⟩
  ·refine rk_seq ?_
   refine rk_region ?_
   refine wl_boxg [_, _, _] rfl (by rfl) ?_
   rintro g2 w2 f2 b2 i2 i2_1
   have s2 := b2.size
   replace hw := hw.trans (b2.mono hw.size)
   refine wl_boxg [_, _, _] rfl (by rfl) ?_
   rintro g3 w3 f3 b3 i3 i3_1
   have s3 := b3.size
   replace hw := hw.trans (b3.mono hw.size)
   replace f2 := f2.u b3
   refine wl_p (fun _ => o_assign rfl) ?_
   refine wl_nil ?_
   refine rk_seq ?_
   refine rk_region ?_
   refine wl_p (fun _ => o_faddr (s := 31) (i := 0) (off := 0) Tryz.underlying31 rfl Tryz.sizeOf28 rfl rfl rfl) ?_
   refine wl_r (o_loadbg Tryz.isAgg28 rfl f2 (by rfl)) ?_
   refine wl_p (fun _ => o_faddr (s := 31) (i := 0) (off := 0) Tryz.underlying31 rfl Tryz.sizeOf28 rfl rfl rfl) ?_
   refine wl_r (o_loadbg Tryz.isAgg28 rfl f3 (by rfl)) ?_
   refine wl_call rfl (C_kItems _ (hA.u hw) (hA2.u hw) rfl rfl (by omega) (by omega)) ?_
   rintro v9 w9 ⟨rfl, b9⟩
   have s9 := b9.size
   replace hw := hw.trans (b9.mono hw.size)
   replace f2 := f2.u b9
   replace f3 := f3.u b9
   refine wl_p (fun _ => o_move rfl) ?_
   refine wl_know 10 true rfl (decide_eq_true (by omega)) ?_
   refine wl_p (fun _ => o_faddr (s := 31) (i := 1) (off := 1) Tryz.underlying31 rfl Tryz.sizeOf29 rfl rfl rfl) ?_
   refine wl_r (o_loadbg Tryz.isAgg29 rfl f2 (by rfl)) ?_
   refine wl_p (fun _ => o_faddr (s := 31) (i := 1) (off := 1) Tryz.underlying31 rfl Tryz.sizeOf29 rfl rfl rfl) ?_
   refine wl_r (o_loadbg Tryz.isAgg29 rfl f3 (by rfl)) ?_
   refine wl_call rfl (C_kKeys _ (hK.u hw) (hK2.u hw) rfl rfl (by omega) (by omega)) ?_
   rintro v15 w15 ⟨rfl, b15⟩
   have s15 := b15.size
   replace hw := hw.trans (b15.mono hw.size)
   replace f3 := f3.u b15
   replace f2 := f2.u b15
   refine wl_p (fun _ => o_pick_t rfl rfl) ?_
   refine wl_p (fun _ => o_move rfl) ?_
   refine wl_know 17 false rfl (decide_eq_false (by omega)) ?_
   refine wl_off ?_
   refine wl_off ?_
   refine wl_off ?_
   refine wl_off ?_
   refine wl_off ?_
   refine wl_p (fun _ => o_pick_f rfl rfl) ?_
   refine wl_p (fun _ => o_assign rfl) ?_
   refine wl_nil ?_
   refine ret1 rfl rfl ?_
   exact ⟨by simp [h1, h2], hw⟩
 ·refine rk_seq ?_
  refine rk_region ?_
  refine wl_boxg [_, _, _] rfl (by rfl) ?_
  rintro g2 w2 f2 b2 i2 i2_1
  have s2 := b2.size
  replace hw := hw.trans (b2.mono hw.size)
  refine wl_boxg [_, _, _] rfl (by rfl) ?_
  rintro g3 w3 f3 b3 i3 i3_1
  have s3 := b3.size
  replace hw := hw.trans (b3.mono hw.size)
  replace f2 := f2.u b3
  refine wl_p (fun _ => o_assign rfl) ?_
  refine wl_nil ?_
  refine rk_seq ?_
  refine rk_region ?_
  refine wl_p (fun _ => o_faddr (s := 31) (i := 0) (off := 0) Tryz.underlying31 rfl Tryz.sizeOf28 rfl rfl rfl) ?_
  refine wl_r (o_loadbg Tryz.isAgg28 rfl f2 (by rfl)) ?_
  refine wl_p (fun _ => o_faddr (s := 31) (i := 0) (off := 0) Tryz.underlying31 rfl Tryz.sizeOf28 rfl rfl rfl) ?_
  refine wl_r (o_loadbg Tryz.isAgg28 rfl f3 (by rfl)) ?_
  refine wl_call rfl (C_kItems _ (hA.u hw) (hA2.u hw) rfl rfl (by omega) (by omega)) ?_
  rintro v9 w9 ⟨rfl, b9⟩
  have s9 := b9.size
  replace hw := hw.trans (b9.mono hw.size)
  replace f2 := f2.u b9
  replace f3 := f3.u b9
  refine wl_p (fun _ => o_move rfl) ?_
  refine wl_know 10 false rfl (decide_eq_false (by omega)) ?_
  refine wl_off ?_
  refine wl_off ?_
  refine wl_off ?_
  refine wl_off ?_
  refine wl_off ?_
  refine wl_p (fun _ => o_pick_f rfl rfl) ?_
  refine wl_p (fun _ => o_move rfl) ?_
  refine wl_off ?_
  refine wl_off ?_
  refine wl_off ?_
  refine wl_off ?_
  refine wl_off ?_
  refine wl_p (fun _ => o_pick_f rfl rfl) ?_
  refine wl_p (fun _ => o_assign rfl) ?_
  refine wl_nil ?_
  refine ret1 rfl rfl ?_
  exact ⟨by simp [h1], hw⟩
section
variable {fn : Func} {F : Ending → World → Prop} {N : Nat} {ks : List K} {ops : Array Oper} {tg : Tags} {l : List Oper} {fr : Fr} {w w0 : World} {ty : TypeId} {pos : String} {aft : Array Edge} {gd : Option (Nat × Bool)} {d0 j o : Nat} {x : Operand} {A : Option Addr} {L : List Opn}
theorem wl_ldOpK (hx : fr.ev x = some (.pointer (some (adr A (j * 35 + o))))) (ho : o = 1) (hr : RO w0 A L) (hb : Below w0.heap.size w0 w) (hj : j < L.length)
  (hk : ∀ K c, Rd w0 K L[j].2.1 → L[j].2.1.length ≤ c → WL Tryz.prog fn F N ks ops tg.tail l ((d0, .slice K L[j].2.1.length c) :: fr) w)
  (ht : tg.reads = true := by rfl) (hg : onG ops fr gd = true := by rfl) (hd : Nat.blt d0 N = true := by rfl) : WL Tryz.prog fn F N ks ops tg (⟨some d0, .load 39 x, ty, pos, aft, gd⟩ :: l) fr w := by
 subst ho
 obtain ⟨K, c, V, d, h1, h2, h3, h4, _⟩ := hr.elem hj
 exact wl_r (o_load (t := 39) Tryz.isAgg39 hx (h1.u hb 1 _ rfl)) (hk K c h2 h4) ht hg hd
theorem wl_ldOpV (hx : fr.ev x = some (.pointer (some (adr A (j * 35 + o))))) (ho : o = 2) (hr : RO w0 A L) (hb : Below w0.heap.size w0 w) (hj : j < L.length)
  (hk : ∀ K c, Rd w0 K L[j].2.2.1 → L[j].2.2.1.length ≤ c → WL Tryz.prog fn F N ks ops tg.tail l ((d0, .slice K L[j].2.2.1.length c) :: fr) w)
  (ht : tg.reads = true := by rfl) (hg : onG ops fr gd = true := by rfl) (hd : Nat.blt d0 N = true := by rfl) : WL Tryz.prog fn F N ks ops tg (⟨some d0, .load 39 x, ty, pos, aft, gd⟩ :: l) fr w := by
 subst ho
 obtain ⟨K, c, V, d, h1, h2, h3, h4, _, h5, _⟩ := hr.elem hj
 exact wl_r (o_load (t := 39) Tryz.isAgg39 hx (h1.u hb 2 _ rfl)) (hk V d h3 h5) ht hg hd
end
def LtO (L : List Opn) (m : Nat) : Prop := L.length ≤ m ∧ ∀ o ∈ L, o.2.1.length ≤ 300 ∧ o.2.2.1.length ≤ 300
set_option maxRecDepth 100000 in
set_option maxHeartbeats 2000000 in
theorem C_lightOps {A : Option Addr} {L : List Opn} {n c m : Nat} {mi : Int} (w : World) (hL : RO w A L) (hn : n = L.length) (hm : mi = (m : Int)) (hl : L.length ≤ 9223372036854775807) (hmm : m ≤ 1000) :
  CallsR Tryz.prog 25 [.slice A n c, .int .i64 mi] w fun v w' => ∃ b, v = .bool b ∧ (b = true ↔ LtO L m) ∧ Below w.heap.size w w' := by
 subst hn; subst hm
 refine callsR Tryz.func25 rfl rfl (by kernel_rfl) rfl ?_
 have hw := Below.refl w.heap.size w
 refine rk_seq ?_
 refine rk_region ?_
 refine wl_p (fun _ => o_assign rfl) ?_
 refine wl_nil ?_
 refine rk_seq ?_
 refine rk_seq ?_
 refine rk_region ?_
 refine wl_p (fun _ => o_move rfl) ?_
 refine wl_p (fun _ => o_len (t := 35) Tryz.underlying35 rfl) ?_
 refine wl_p (fun _ => o_move rfl) ?_
 refine wl_p (fun _ => o_gt rfl rfl) ?_
 refine wl_nil ?_
 refine rk_if rfl (fun h9 => ?_) (fun h9 => ?_)
 ·refine rk_seq ?_
  refine rk_region ?_
  refine wl_p (fun _ => o_assign rfl) ?_
  refine wl_nil ?_
  refine ret1 rfl rfl ?_
  exact ⟨false, rfl, ⟨fun h => (by cases h), fun h => by have := h.1; omega⟩, hw⟩
 refine rk_skip ?_
 refine rk_seq ?_
 refine rk_seq ?_
 refine rk_region ?_
 refine wl_p (fun _ => o_assign rfl) ?_
 refine wl_nil ?_
 refine rk_block ?_
 refine rk_joinf (fun fb fr w2 => fr = [] ++ fb.drop 1 ∧ (∀ j (h : j < L.length), L[j].2.1.length ≤ 300 ∧ L[j].2.2.1.length ≤ 300) ∧ Below w.heap.size w w2) ?_ (fun ks hj => ?_)
 rotate_left
 ·refine rk_loopf (fun fb k fr w2 => ∃ (i : Nat) (v : Int), fr = [(5, .int .i64 v)] ++ fb.drop 1 ∧ v = i ∧ i ≤ L.length ∧ k = L.length - i ∧ (∀ j (h : j < L.length), j < i → L[j].2.1.length ≤ 300 ∧ L[j].2.2.1.length ≤ 300) ∧ Below w.heap.size w w2) (n := L.length) (Fr.le_of (by kernel_rfl) (by kernel_rfl) (by repeat' constructor)) ⟨0, _, rfl, rfl, by omega, rfl, fun j _ h => absurd h (Nat.not_lt_zero _), hw⟩ ?_
  clear hw
  rintro k fr w2 ⟨i, v, rfl, rfl, hi, rfl, hok, hw⟩
  have shw := hw.size
  first | refine rk_frame (by simp only [List.cons_append, List.nil_append, List.drop_succ_cons, List.drop_zero]; rfl) ?_ | refine wl_frame (by simp only [List.cons_append, List.nil_append, List.drop_succ_cons, List.drop_zero]; rfl) ?_
  refine rk_seq ?_
  refine rk_seq ?_
  refine rk_region ?_
  refine wl_p (fun _ => o_move rfl) ?_
  refine wl_p (fun _ => o_move rfl) ?_
  refine wl_p (fun _ => o_len (t := 35) Tryz.underlying35 rfl) ?_
  refine wl_p (fun _ => o_lt rfl rfl) ?_
  refine wl_nil ?_
  refine rk_if rfl (fun h13 => ?_) (fun h13 => ?_)
  ·have hil : i < L.length := by omega
   by_cases k1 : 300 < L[i].2.1.length
   ·refine rk_skip ?_
    refine rk_seq ?_
    refine rk_block ?_
    refine rk_seq ?_
    refine rk_region ?_
    refine wl_p (fun _ => o_move rfl) ?_
    refine wl_p (fun _ => o_move rfl) ?_
    refine wl_p (fun _ => (o_iaddrA (i) Tryz.underlying35 Tryz.sizeOf54 rfl rfl rfl (hL.some_ (by omega)) (by omega))) ?_
    refine wl_p (fun _ => (o_faddrR rfl Tryz.underlying54 (by rfl) Tryz.sizeOf39 (by rfl) (by rfl))) ?_
    refine wl_ldOpK rfl (by rfl) hL hw (by omega) ?_
    rintro K20 c20 f20 i20
    refine wl_p (fun _ => o_len (t := 39) Tryz.underlying39 rfl) ?_
    refine wl_p (fun _ => o_gt rfl rfl) ?_
    refine wl_p (fun _ => o_move rfl) ?_
    refine wl_know 23 true rfl (decide_eq_true (by omega)) ?_
    refine wl_off ?_
    refine wl_off ?_
    refine wl_off ?_
    refine wl_off ?_
    refine wl_off ?_
    refine wl_off ?_
    refine wl_off ?_
    refine wl_p (fun _ => o_pick_t rfl rfl) ?_
    refine wl_nil ?_
    refine rk_true rfl ?_
    refine rk_seq ?_
    refine rk_region ?_
    refine wl_p (fun _ => o_assign rfl) ?_
    refine wl_nil ?_
    refine ret1 rfl rfl ?_
    exact ⟨false, rfl, ⟨fun h => (by cases h), fun h => by have := (h.2 _ (List.getElem_mem hil)).1; omega⟩, hw⟩
   ·by_cases k2 : 300 < L[i].2.2.1.length
    ·refine rk_skip ?_
     refine rk_seq ?_
     refine rk_block ?_
     refine rk_seq ?_
     refine rk_region ?_
     refine wl_p (fun _ => o_move rfl) ?_
     refine wl_p (fun _ => o_move rfl) ?_
     refine wl_p (fun _ => (o_iaddrA (i) Tryz.underlying35 Tryz.sizeOf54 rfl rfl rfl (hL.some_ (by omega)) (by omega))) ?_
     refine wl_p (fun _ => (o_faddrR rfl Tryz.underlying54 (by rfl) Tryz.sizeOf39 (by rfl) (by rfl))) ?_
     refine wl_ldOpK rfl (by rfl) hL hw (by omega) ?_
     rintro K20 c20 f20 i20
     refine wl_p (fun _ => o_len (t := 39) Tryz.underlying39 rfl) ?_
     refine wl_p (fun _ => o_gt rfl rfl) ?_
     refine wl_p (fun _ => o_move rfl) ?_
     refine wl_know 23 false rfl (decide_eq_false (by omega)) ?_
     refine wl_p (fun _ => o_move rfl) ?_
     refine wl_p (fun _ => o_move rfl) ?_
     refine wl_p (fun _ => (o_iaddrA (i) Tryz.underlying35 Tryz.sizeOf54 rfl rfl rfl (hL.some_ (by omega)) (by omega))) ?_
     refine wl_p (fun _ => (o_faddrR rfl Tryz.underlying54 (by rfl) Tryz.sizeOf39 (by rfl) (by rfl))) ?_
     refine wl_ldOpV rfl (by rfl) hL hw (by omega) ?_
     rintro K28 c28 f28 i28
     refine wl_p (fun _ => o_len (t := 39) Tryz.underlying39 rfl) ?_
     refine wl_p (fun _ => o_gt rfl rfl) ?_
     refine wl_p (fun _ => o_pick_f rfl rfl) ?_
     refine wl_nil ?_
     refine rk_if rfl (fun h31 => ?_) (fun h31 => h31.elim (by omega))
     refine rk_seq ?_
     refine rk_region ?_
     refine wl_p (fun _ => o_assign rfl) ?_
     refine wl_nil ?_
     refine ret1 rfl rfl ?_
     exact ⟨false, rfl, ⟨fun h => (by cases h), fun h => by have := (h.2 _ (List.getElem_mem hil)).2; omega⟩, hw⟩
    ·refine rk_skip ?_
     refine rk_seq ?_
     refine rk_block ?_
     refine rk_seq ?_
     refine rk_region ?_
     refine wl_p (fun _ => o_move rfl) ?_
     refine wl_p (fun _ => o_move rfl) ?_
     refine wl_p (fun _ => (o_iaddrA (i) Tryz.underlying35 Tryz.sizeOf54 rfl rfl rfl (hL.some_ (by omega)) (by omega))) ?_
     refine wl_p (fun _ => (o_faddrR rfl Tryz.underlying54 (by rfl) Tryz.sizeOf39 (by rfl) (by rfl))) ?_
     refine wl_ldOpK rfl (by rfl) hL hw (by omega) ?_
     rintro K20 c20 f20 i20
     refine wl_p (fun _ => o_len (t := 39) Tryz.underlying39 rfl) ?_
     refine wl_p (fun _ => o_gt rfl rfl) ?_
     refine wl_p (fun _ => o_move rfl) ?_
     refine wl_know 23 false rfl (decide_eq_false (by omega)) ?_
     refine wl_p (fun _ => o_move rfl) ?_
     refine wl_p (fun _ => o_move rfl) ?_
     refine wl_p (fun _ => (o_iaddrA (i) Tryz.underlying35 Tryz.sizeOf54 rfl rfl rfl (hL.some_ (by omega)) (by omega))) ?_
     refine wl_p (fun _ => (o_faddrR rfl Tryz.underlying54 (by rfl) Tryz.sizeOf39 (by rfl) (by rfl))) ?_
     refine wl_ldOpV rfl (by rfl) hL hw (by omega) ?_
     rintro K28 c28 f28 i28
     refine wl_p (fun _ => o_len (t := 39) Tryz.underlying39 rfl) ?_
     refine wl_p (fun _ => o_gt rfl rfl) ?_
     refine wl_p (fun _ => o_pick_f rfl rfl) ?_
     refine wl_nil ?_
     refine rk_if rfl (fun h31 => absurd h31 (by omega)) (fun h31 => ?_)
     refine rk_skip ?_
     refine rk_blk ?_
     refine rk_region ?_
     refine wl_p (fun _ => o_move rfl) ?_
     refine wl_p (fun _ => o_add rfl rfl (by omega) (by omega)) ?_
     refine wl_p (fun _ => o_assign rfl) ?_
     refine wl_nil ?_
     exact rk_againf (Fr.le_of (by kernel_rfl) (by kernel_rfl) (by repeat' constructor)) ⟨i + 1, (i : Int) + 1, rfl, by omega, by omega, rfl, fun j hj hji => by
      rcases Nat.lt_or_ge j i with h | h
      ·exact hok j hj h
      ·obtain rfl : j = i := by omega
       exact ⟨by omega, by omega⟩, hw⟩ (by omega)
  ·refine rk_exit rfl ?_
   exact rk_tof hj (Fr.le_of (by kernel_rfl) (by kernel_rfl) (by repeat' constructor)) ⟨rfl, fun j h => hok j h (by omega), hw⟩
 clear hw
 rintro fr w2 ⟨rfl, hok, hw⟩
 first | refine rk_frame (by simp only [List.cons_append, List.nil_append, List.drop_succ_cons, List.drop_zero]; rfl) ?_ | refine wl_frame (by simp only [List.cons_append, List.nil_append, List.drop_succ_cons, List.drop_zero]; rfl) ?_
 refine rk_seq ?_
 refine rk_region ?_
 refine wl_p (fun _ => o_assign rfl) ?_
 refine wl_nil ?_
 refine ret1 rfl rfl ?_
 exact ⟨true, rfl, ⟨fun _ => ⟨by omega, fun o ho => by obtain ⟨j, hj, rfl⟩ := List.getElem_of_mem ho; exact hok j hj⟩, fun _ => rfl⟩, hw⟩
def LtS (I : List (By × By)) (X Y : List Ky) (m : Nat) : Prop := I.length ≤ m ∧ X.length ≤ 40 ∧ Y.length ≤ 40 ∧ ∀ x ∈ I, x.1.length ≤ 300 ∧ x.2.length ≤ 300
set_option maxRecDepth 100000 in
set_option maxHeartbeats 2000000 in
theorem C_lightState {A B C : Option Addr} {I : List (By × By)} {X Y : List Ky} {n c p d q e m : Nat} {mi : Int} (w : World) (hA : RI w A I) (hn : n = I.length) (hp : p = X.length) (hq : q = Y.length) (hm : mi = (m : Int)) (hmm : m ≤ 1000) :
  CallsR Tryz.prog 20 [.agg #[.slice A n c, .slice B p d, .slice C q e], .int .i64 mi] w fun v w' => ∃ b, v = .bool b ∧ (b = true ↔ LtS I X Y m) ∧ Below w.heap.size w w' := by
 subst hn; subst hm; subst hp; subst hq
 refine callsR Tryz.func20 rfl rfl (by kernel_rfl) rfl ?_
 have hw := Below.refl w.heap.size w
 by_cases h1 : m < I.length
 ·refine rk_seq ?_
  refine rk_region ?_
  refine wl_boxg [_, _, _] rfl (by rfl) ?_
  rintro g2 w2 f2 b2 i2 i2_1
  have s2 := b2.size
  replace hw := hw.trans (b2.mono hw.size)
  refine wl_p (fun _ => o_assign rfl) ?_
  refine wl_nil ?_
  refine rk_seq ?_
  refine rk_seq ?_
  refine rk_region ?_
  refine wl_p (fun _ => o_faddr (s := 31) (i := 0) (off := 0) Tryz.underlying31 rfl Tryz.sizeOf28 rfl rfl rfl) ?_
  refine wl_r (o_loadbg Tryz.isAgg28 rfl f2 (by rfl)) ?_
  refine wl_p (fun _ => o_len (t := 28) Tryz.underlying28 rfl) ?_
  refine wl_p (fun _ => o_move rfl) ?_
  refine wl_p (fun _ => o_gt rfl rfl) ?_
  refine wl_p (fun _ => o_move rfl) ?_
  refine wl_know 11 true rfl (decide_eq_true (by omega)) ?_
  refine wl_off ?_
  refine wl_off ?_
  refine wl_off ?_
  refine wl_off ?_
  refine wl_p (fun _ => o_pick_t rfl rfl) ?_
  refine wl_p (fun _ => o_move rfl) ?_
  refine wl_off ?_
  refine wl_off ?_
  refine wl_off ?_
  refine wl_off ?_
  refine wl_p (fun _ => o_pick_t rfl rfl) ?_
  refine wl_nil ?_
  refine rk_true rfl ?_
  refine rk_seq ?_
  refine rk_region ?_
  refine wl_p (fun _ => o_assign rfl) ?_
  refine wl_nil ?_
  refine ret1 rfl rfl ?_
  exact ⟨false, rfl, ⟨fun h => (by cases h), fun h => by have := h.1; omega⟩, hw⟩
 by_cases h2 : 40 < X.length
 ·refine rk_seq ?_
  refine rk_region ?_
  refine wl_boxg [_, _, _] rfl (by rfl) ?_
  rintro g2 w2 f2 b2 i2 i2_1
  have s2 := b2.size
  replace hw := hw.trans (b2.mono hw.size)
  refine wl_p (fun _ => o_assign rfl) ?_
  refine wl_nil ?_
  refine rk_seq ?_
  refine rk_seq ?_
  refine rk_region ?_
  refine wl_p (fun _ => o_faddr (s := 31) (i := 0) (off := 0) Tryz.underlying31 rfl Tryz.sizeOf28 rfl rfl rfl) ?_
  refine wl_r (o_loadbg Tryz.isAgg28 rfl f2 (by rfl)) ?_
  refine wl_p (fun _ => o_len (t := 28) Tryz.underlying28 rfl) ?_
  refine wl_p (fun _ => o_move rfl) ?_
  refine wl_p (fun _ => o_gt rfl rfl) ?_
  refine wl_p (fun _ => o_move rfl) ?_
  refine wl_know 11 false rfl (decide_eq_false (by omega)) ?_
  refine wl_p (fun _ => o_faddr (s := 31) (i := 1) (off := 1) Tryz.underlying31 rfl Tryz.sizeOf29 rfl rfl rfl) ?_
  refine wl_r (o_loadbg Tryz.isAgg29 rfl f2 (by rfl)) ?_
  refine wl_p (fun _ => o_len (t := 29) Tryz.underlying29 rfl) ?_
  refine wl_p (fun _ => o_gt rfl rfl) ?_
  refine wl_p (fun _ => o_pick_f rfl rfl) ?_
  refine wl_p (fun _ => o_move rfl) ?_
  refine wl_know 17 true rfl (decide_eq_true (by omega)) ?_
  refine wl_off ?_
  refine wl_off ?_
  refine wl_off ?_
  refine wl_off ?_
  refine wl_p (fun _ => o_pick_t rfl rfl) ?_
  refine wl_nil ?_
  refine rk_true rfl ?_
  refine rk_seq ?_
  refine rk_region ?_
  refine wl_p (fun _ => o_assign rfl) ?_
  refine wl_nil ?_
  refine ret1 rfl rfl ?_
  exact ⟨false, rfl, ⟨fun h => (by cases h), fun h => by have := h.2.1; omega⟩, hw⟩
 by_cases h3 : 40 < Y.length
 ·refine rk_seq ?_
  refine rk_region ?_
  refine wl_boxg [_, _, _] rfl (by rfl) ?_
  rintro g2 w2 f2 b2 i2 i2_1
  have s2 := b2.size
  replace hw := hw.trans (b2.mono hw.size)
  refine wl_p (fun _ => o_assign rfl) ?_
  refine wl_nil ?_
  refine rk_seq ?_
  refine rk_seq ?_
  refine rk_region ?_
  refine wl_p (fun _ => o_faddr (s := 31) (i := 0) (off := 0) Tryz.underlying31 rfl Tryz.sizeOf28 rfl rfl rfl) ?_
  refine wl_r (o_loadbg Tryz.isAgg28 rfl f2 (by rfl)) ?_
  refine wl_p (fun _ => o_len (t := 28) Tryz.underlying28 rfl) ?_
  refine wl_p (fun _ => o_move rfl) ?_
  refine wl_p (fun _ => o_gt rfl rfl) ?_
  refine wl_p (fun _ => o_move rfl) ?_
  refine wl_know 11 false rfl (decide_eq_false (by omega)) ?_
  refine wl_p (fun _ => o_faddr (s := 31) (i := 1) (off := 1) Tryz.underlying31 rfl Tryz.sizeOf29 rfl rfl rfl) ?_
  refine wl_r (o_loadbg Tryz.isAgg29 rfl f2 (by rfl)) ?_
  refine wl_p (fun _ => o_len (t := 29) Tryz.underlying29 rfl) ?_
  refine wl_p (fun _ => o_gt rfl rfl) ?_
  refine wl_p (fun _ => o_pick_f rfl rfl) ?_
  refine wl_p (fun _ => o_move rfl) ?_
  refine wl_know 17 false rfl (decide_eq_false (by omega)) ?_
  refine wl_p (fun _ => o_faddr (s := 31) (i := 2) (off := 2) Tryz.underlying31 rfl Tryz.sizeOf29 rfl rfl rfl) ?_
  refine wl_r (o_loadbg Tryz.isAgg29 rfl f2 (by rfl)) ?_
  refine wl_p (fun _ => o_len (t := 29) Tryz.underlying29 rfl) ?_
  refine wl_p (fun _ => o_gt rfl rfl) ?_
  refine wl_p (fun _ => o_pick_f rfl rfl) ?_
  refine wl_nil ?_
  refine rk_if rfl (fun h22 => ?_) (fun h22 => h22.elim (by omega))
  refine rk_seq ?_
  refine rk_region ?_
  refine wl_p (fun _ => o_assign rfl) ?_
  refine wl_nil ?_
  refine ret1 rfl rfl ?_
  exact ⟨false, rfl, ⟨fun h => (by cases h), fun h => by have := h.2.2.1; omega⟩, hw⟩
 refine rk_seq ?_
 refine rk_region ?_
 refine wl_boxg [_, _, _] rfl (by rfl) ?_
 rintro g2 w2 f2 b2 i2 i2_1
 have s2 := b2.size
 replace hw := hw.trans (b2.mono hw.size)
 refine wl_p (fun _ => o_assign rfl) ?_
 refine wl_nil ?_
 refine rk_seq ?_
 refine rk_seq ?_
 refine rk_region ?_
 refine wl_p (fun _ => o_faddr (s := 31) (i := 0) (off := 0) Tryz.underlying31 rfl Tryz.sizeOf28 rfl rfl rfl) ?_
 refine wl_r (o_loadbg Tryz.isAgg28 rfl f2 (by rfl)) ?_
 refine wl_p (fun _ => o_len (t := 28) Tryz.underlying28 rfl) ?_
 refine wl_p (fun _ => o_move rfl) ?_
 refine wl_p (fun _ => o_gt rfl rfl) ?_
 refine wl_p (fun _ => o_move rfl) ?_
 refine wl_know 11 false rfl (decide_eq_false (by omega)) ?_
 refine wl_p (fun _ => o_faddr (s := 31) (i := 1) (off := 1) Tryz.underlying31 rfl Tryz.sizeOf29 rfl rfl rfl) ?_
 refine wl_r (o_loadbg Tryz.isAgg29 rfl f2 (by rfl)) ?_
 refine wl_p (fun _ => o_len (t := 29) Tryz.underlying29 rfl) ?_
 refine wl_p (fun _ => o_gt rfl rfl) ?_
 refine wl_p (fun _ => o_pick_f rfl rfl) ?_
 refine wl_p (fun _ => o_move rfl) ?_
 refine wl_know 17 false rfl (decide_eq_false (by omega)) ?_
 refine wl_p (fun _ => o_faddr (s := 31) (i := 2) (off := 2) Tryz.underlying31 rfl Tryz.sizeOf29 rfl rfl rfl) ?_
 refine wl_r (o_loadbg Tryz.isAgg29 rfl f2 (by rfl)) ?_
 refine wl_p (fun _ => o_len (t := 29) Tryz.underlying29 rfl) ?_
 refine wl_p (fun _ => o_gt rfl rfl) ?_
 refine wl_p (fun _ => o_pick_f rfl rfl) ?_
 refine wl_nil ?_
 refine rk_if rfl (fun h22 => absurd h22 (by omega)) (fun h22 => ?_)
 refine rk_skip ?_
 refine rk_seq ?_
 refine rk_seq ?_
 refine rk_region ?_
 refine wl_p (fun _ => o_assign rfl) ?_
 refine wl_nil ?_
 refine rk_block ?_
 refine rk_joinf (fun fb fr w3 => fr = [] ++ fb.drop 1 ∧ (∀ j (h : j < I.length), I[j].1.length ≤ 300 ∧ I[j].2.length ≤ 300) ∧ Below w.heap.size w w3) ?_ (fun ks hj => ?_)
 rotate_left
 ·refine rk_loopf (fun fb k fr w3 => ∃ (i : Nat) (v : Int), fr = [(5, .int .i64 v)] ++ fb.drop 1 ∧ v = i ∧ i ≤ I.length ∧ k = I.length - i ∧ (∀ j (h : j < I.length), j < i → I[j].1.length ≤ 300 ∧ I[j].2.length ≤ 300) ∧ Blk w3 g2 31 [.slice A I.length c, .slice B X.length d, .slice C Y.length e] ∧ Below w.heap.size w w3) (n := I.length) (Fr.le_of (by kernel_rfl) (by kernel_rfl) (by repeat' constructor)) ⟨0, _, rfl, rfl, by omega, rfl, fun j _ h => absurd h (Nat.not_lt_zero _), f2, hw⟩ ?_
  clear hw f2
  rintro k fr w3 ⟨i, v, rfl, rfl, hi, rfl, hok, f2, hw⟩
  have shw := hw.size
  first | refine rk_frame (by simp only [List.cons_append, List.nil_append, List.drop_succ_cons, List.drop_zero]; rfl) ?_ | refine wl_frame (by simp only [List.cons_append, List.nil_append, List.drop_succ_cons, List.drop_zero]; rfl) ?_
  refine rk_seq ?_
  refine rk_seq ?_
  refine rk_region ?_
  refine wl_p (fun _ => o_move rfl) ?_
  refine wl_p (fun _ => o_faddr (s := 31) (i := 0) (off := 0) Tryz.underlying31 rfl Tryz.sizeOf28 rfl rfl rfl) ?_
  refine wl_r (o_loadbg Tryz.isAgg28 rfl f2 (by rfl)) ?_
  refine wl_p (fun _ => o_len (t := 28) Tryz.underlying28 rfl) ?_
  refine wl_p (fun _ => o_lt rfl rfl) ?_
  refine wl_nil ?_
  refine rk_if rfl (fun h27 => ?_) (fun h27 => ?_)
  ·have hil : i < I.length := by omega
   by_cases k1 : 300 < I[i].1.length
   ·refine rk_skip ?_
    refine rk_seq ?_
    refine rk_block ?_
    refine rk_seq ?_
    refine rk_region ?_
    refine wl_p (fun _ => o_faddr (s := 31) (i := 0) (off := 0) Tryz.underlying31 rfl Tryz.sizeOf28 rfl rfl rfl) ?_
    refine wl_r (o_loadbg Tryz.isAgg28 rfl f2 (by rfl)) ?_
    refine wl_p (fun _ => o_move rfl) ?_
    refine wl_p (fun _ => (o_iaddrA (i) Tryz.underlying28 Tryz.sizeOf94 rfl rfl rfl (hA.some_ (by omega)) (by omega))) ?_
    refine wl_p (fun _ => (o_faddrR rfl Tryz.underlying94 (by rfl) Tryz.sizeOf39 (by rfl) (by rfl))) ?_
    refine wl_ldKey rfl hA hw (by omega) ?_
    rintro A135 c135 f35 i35
    refine wl_p (fun _ => o_len (t := 39) Tryz.underlying39 rfl) ?_
    refine wl_p (fun _ => o_gt rfl rfl) ?_
    refine wl_p (fun _ => o_move rfl) ?_
    refine wl_know 38 true rfl (decide_eq_true (by omega)) ?_
    refine wl_off ?_
    refine wl_off ?_
    refine wl_off ?_
    refine wl_off ?_
    refine wl_off ?_
    refine wl_off ?_
    refine wl_off ?_
    refine wl_off ?_
    refine wl_p (fun _ => o_pick_t rfl rfl) ?_
    refine wl_nil ?_
    refine rk_true rfl ?_
    refine rk_seq ?_
    refine rk_region ?_
    refine wl_p (fun _ => o_assign rfl) ?_
    refine wl_nil ?_
    refine ret1 rfl rfl ?_
    exact ⟨false, rfl, ⟨fun h => (by cases h), fun h => by have := (h.2.2.2 _ (List.getElem_mem hil)).1; omega⟩, hw⟩
   ·by_cases k2 : 300 < I[i].2.length
    ·refine rk_skip ?_
     refine rk_seq ?_
     refine rk_block ?_
     refine rk_seq ?_
     refine rk_region ?_
     refine wl_p (fun _ => o_faddr (s := 31) (i := 0) (off := 0) Tryz.underlying31 rfl Tryz.sizeOf28 rfl rfl rfl) ?_
     refine wl_r (o_loadbg Tryz.isAgg28 rfl f2 (by rfl)) ?_
     refine wl_p (fun _ => o_move rfl) ?_
     refine wl_p (fun _ => (o_iaddrA (i) Tryz.underlying28 Tryz.sizeOf94 rfl rfl rfl (hA.some_ (by omega)) (by omega))) ?_
     refine wl_p (fun _ => (o_faddrR rfl Tryz.underlying94 (by rfl) Tryz.sizeOf39 (by rfl) (by rfl))) ?_
     refine wl_ldKey rfl hA hw (by omega) ?_
     rintro A135 c135 f35 i35
     refine wl_p (fun _ => o_len (t := 39) Tryz.underlying39 rfl) ?_
     refine wl_p (fun _ => o_gt rfl rfl) ?_
     refine wl_p (fun _ => o_move rfl) ?_
     refine wl_know 38 false rfl (decide_eq_false (by omega)) ?_
     refine wl_p (fun _ => o_faddr (s := 31) (i := 0) (off := 0) Tryz.underlying31 rfl Tryz.sizeOf28 rfl rfl rfl) ?_
     refine wl_r (o_loadbg Tryz.isAgg28 rfl f2 (by rfl)) ?_
     refine wl_p (fun _ => o_move rfl) ?_
     refine wl_p (fun _ => (o_iaddrA (i) Tryz.underlying28 Tryz.sizeOf94 rfl rfl rfl (hA.some_ (by omega)) (by omega))) ?_
     refine wl_p (fun _ => (o_faddrR rfl Tryz.underlying94 (by rfl) Tryz.sizeOf39 (by rfl) (by rfl))) ?_
     refine wl_ldVal rfl hA hw (by omega) ?_
     rintro A144 c144 f44 i44
     refine wl_p (fun _ => o_len (t := 39) Tryz.underlying39 rfl) ?_
     refine wl_p (fun _ => o_gt rfl rfl) ?_
     refine wl_p (fun _ => o_pick_f rfl rfl) ?_
     refine wl_nil ?_
     refine rk_if rfl (fun h47 => ?_) (fun h47 => h47.elim (by omega))
     refine rk_seq ?_
     refine rk_region ?_
     refine wl_p (fun _ => o_assign rfl) ?_
     refine wl_nil ?_
     refine ret1 rfl rfl ?_
     exact ⟨false, rfl, ⟨fun h => (by cases h), fun h => by have := (h.2.2.2 _ (List.getElem_mem hil)).2; omega⟩, hw⟩
    ·refine rk_skip ?_
     refine rk_seq ?_
     refine rk_block ?_
     refine rk_seq ?_
     refine rk_region ?_
     refine wl_p (fun _ => o_faddr (s := 31) (i := 0) (off := 0) Tryz.underlying31 rfl Tryz.sizeOf28 rfl rfl rfl) ?_
     refine wl_r (o_loadbg Tryz.isAgg28 rfl f2 (by rfl)) ?_
     refine wl_p (fun _ => o_move rfl) ?_
     refine wl_p (fun _ => (o_iaddrA (i) Tryz.underlying28 Tryz.sizeOf94 rfl rfl rfl (hA.some_ (by omega)) (by omega))) ?_
     refine wl_p (fun _ => (o_faddrR rfl Tryz.underlying94 (by rfl) Tryz.sizeOf39 (by rfl) (by rfl))) ?_
     refine wl_ldKey rfl hA hw (by omega) ?_
     rintro A135 c135 f35 i35
     refine wl_p (fun _ => o_len (t := 39) Tryz.underlying39 rfl) ?_
     refine wl_p (fun _ => o_gt rfl rfl) ?_
     refine wl_p (fun _ => o_move rfl) ?_
     refine wl_know 38 false rfl (decide_eq_false (by omega)) ?_
     refine wl_p (fun _ => o_faddr (s := 31) (i := 0) (off := 0) Tryz.underlying31 rfl Tryz.sizeOf28 rfl rfl rfl) ?_
     refine wl_r (o_loadbg Tryz.isAgg28 rfl f2 (by rfl)) ?_
     refine wl_p (fun _ => o_move rfl) ?_
     refine wl_p (fun _ => (o_iaddrA (i) Tryz.underlying28 Tryz.sizeOf94 rfl rfl rfl (hA.some_ (by omega)) (by omega))) ?_
     refine wl_p (fun _ => (o_faddrR rfl Tryz.underlying94 (by rfl) Tryz.sizeOf39 (by rfl) (by rfl))) ?_
     refine wl_ldVal rfl hA hw (by omega) ?_
     rintro A144 c144 f44 i44
     refine wl_p (fun _ => o_len (t := 39) Tryz.underlying39 rfl) ?_
     refine wl_p (fun _ => o_gt rfl rfl) ?_
     refine wl_p (fun _ => o_pick_f rfl rfl) ?_
     refine wl_nil ?_
     refine rk_if rfl (fun h47 => absurd h47 (by omega)) (fun h47 => ?_)
     refine rk_skip ?_
     refine rk_blk ?_
     refine rk_region ?_
     refine wl_p (fun _ => o_move rfl) ?_
     refine wl_p (fun _ => o_add rfl rfl (by omega) (by omega)) ?_
     refine wl_p (fun _ => o_assign rfl) ?_
     refine wl_nil ?_
     exact rk_againf (Fr.le_of (by kernel_rfl) (by kernel_rfl) (by repeat' constructor)) ⟨i + 1, (i : Int) + 1, rfl, by omega, by omega, rfl, fun j hj hji => by
      rcases Nat.lt_or_ge j i with h | h
      ·exact hok j hj h
      ·obtain rfl : j = i := by omega
       exact ⟨by omega, by omega⟩, f2, hw⟩ (by omega)
  ·refine rk_exit rfl ?_
   exact rk_tof hj (Fr.le_of (by kernel_rfl) (by kernel_rfl) (by repeat' constructor)) ⟨rfl, fun j h => hok j h (by omega), hw⟩
 clear hw f2
 rintro fr w3 ⟨rfl, hok, hw⟩
 first | refine rk_frame (by simp only [List.cons_append, List.nil_append, List.drop_succ_cons, List.drop_zero]; rfl) ?_ | refine wl_frame (by simp only [List.cons_append, List.nil_append, List.drop_succ_cons, List.drop_zero]; rfl) ?_
 refine rk_seq ?_
 refine rk_region ?_
 refine wl_p (fun _ => o_assign rfl) ?_
 refine wl_nil ?_
 refine ret1 rfl rfl ?_
 exact ⟨true, rfl, ⟨fun _ => ⟨by omega, by omega, by omega, fun o ho => by obtain ⟨j, hj, rfl⟩ := List.getElem_of_mem ho; exact hok j hj⟩, fun _ => rfl⟩, hw⟩
end Go.Proofs.YtahkeoegbjopfaaGreat
/-
  A region whose order is open at a place where three loud operations are ready. No function of the program is named here.
-/
namespace Go.Proofs.YtahkeoegbjopfaaGreat
set_option maxRecDepth 100000
def only3 (m k1 k2 k3 : Nat) : List Nat → Nat → Bool
 | [], _ => true
 | d :: D, j => (Nat.beq j k1 || (Nat.beq j k2 || (Nat.beq j k3 || (Nat.testBit m j || !Nat.beq (Nat.land d m) d)))) && only3 m k1 k2 k3 D (j + 1)
theorem only3_spec {m k1 k2 k3 : Nat} : ∀ (D : List Nat) (j : Nat), only3 m k1 k2 k3 D j = true → ∀ i d, D[i]? = some d → j + i = k1 ∨ j + i = k2 ∨ j + i = k3 ∨ m.testBit (j + i) = true ∨ Nat.beq (Nat.land d m) d = false
 | [], _, _, i, d, h => by simp at h
 | x :: D, j, hc, i, d, hd => by
  unfold only3 at hc
  simp only [Bool.and_eq_true, Bool.or_eq_true, Bool.not_eq_true'] at hc
  cases i with
  | zero =>
   obtain rfl : x = d := by simpa using hd
   rcases hc.1 with h | h | h | h | h
   ·exact .inl (Nat.eq_of_beq_eq_true h)
   ·exact .inr (.inl (Nat.eq_of_beq_eq_true h))
   ·exact .inr (.inr (.inl (Nat.eq_of_beq_eq_true h)))
   ·exact .inr (.inr (.inr (.inl h)))
   ·exact .inr (.inr (.inr (.inr h)))
  | succ i =>
   have := only3_spec D (j + 1) hc.2 i d (by simpa using hd)
   rwa [show j + 1 + i = j + (i + 1) by omega] at this
section
variable {P : Program} {fn : Func} {F : Ending → World → Prop} {N : Nat} {ks : List K} {ops : Array Oper} {fr : Fr} {w : World}
theorem Marks.only3 {D A : List Nat} {listed : Array Bool} {m : Nat} (h : Marks .any ops D A listed m) {k1 k2 k3 : Nat} (hk : only3 m k1 k2 k3 D 0 = true) : ∀ j ∈ Region.ready .any ops listed, j = k1 ∨ j = k2 ∨ j = k3 := by
 intro j hj
 obtain ⟨hun, o, ho, hall⟩ := mem_ready.1 hj
 have hlt : j < ops.size := (Array.getElem?_eq_some_iff.1 ho).1
 rw [h.getD hlt] at hun
 rcases only3_spec D 0 hk j _ (h.dAt ho) with h1 | h1 | h1 | h1 | h1
 ·exact .inl (by simpa using h1)
 ·exact .inr (.inl (by simpa using h1))
 ·exact .inr (.inr (by simpa using h1))
 ·rw [Nat.zero_add, hun] at h1; cases h1
 ·rw [h.subset.2 hall] at h1; cases h1
theorem wl_fork3 {row : Rw} {m L C n k1 k2 k3 : Nat} {l1 l2 l3 : List Oper} {ts1 ts2 ts3 : List (Tag × Nat)} (D A : List Nat) (hD : ops.toList.map (dmask .any) = D) (hA : ancs .any ops.toList [] = A)
  (hc : (Nat.testBit L k1 && (Nat.testBit L k2 && (Nat.testBit L k3 && (rdyK D m k1 && (rdyK D m k2 && (rdyK D m k3 && (Go.Proofs.YtahkeoegbjopfaaGreat.only3 m k1 k2 k3 D 0 && (Nat.beq n (l1.length + extra ts1) && (Nat.beq n (l2.length + extra ts2) && (Nat.beq n (l3.length + extra ts3) && (chk ops ops.toList D A L C ts1 (m ||| 2 ^ k1) && (chk ops ops.toList D A L C ts2 (m ||| 2 ^ k2) && chk ops ops.toList D A L C ts3 (m ||| 2 ^ k3))))))))))))) = true)
  (hl1 : l1.map some = ops[k1]? :: opsOf ops ts1) (hl2 : l2.map some = ops[k2]? :: opsOf ops ts2) (hl3 : l3.map some = ops[k3]? :: opsOf ops ts3)
  (h1 : WL P fn F N ks ops (some (row, (.g m L C, k1) :: ts1)) l1 fr w) (h2 : WL P fn F N ks ops (some (row, (.g m L C, k2) :: ts2)) l2 fr w) (h3 : WL P fn F N ks ops (some (row, (.g m L C, k3) :: ts3)) l3 fr w) : WL P fn F N ks ops (some (row, [(.f m L C, n)])) [] fr w := fun a ha => by
 intro D' A' L' C' listed m' hm _ hchk
 unfold chk at hchk
 simp only [Bool.and_eq_true] at hchk hc
 obtain ⟨hm1, hL1, hC1⟩ := hchk
 obtain rfl := Nat.eq_of_beq_eq_true hm1
 obtain rfl := Nat.eq_of_beq_eq_true hL1
 obtain rfl := Nat.eq_of_beq_eq_true hC1
 obtain rfl : D' = D := by rw [hm.D, hD]
 obtain rfl : A' = A := by rw [hm.A, hA]
 obtain ⟨c1, c2, c3, c4, c5, c6, c7, c8, c9, c10, c11, c12, c13⟩ := hc
 obtain ⟨o1, r1, rfl⟩ : ∃ o r, l1 = o :: r := by cases l1 with | nil => simp at hl1 | cons o r => exact ⟨o, r, rfl⟩
 obtain ⟨o2, r2, rfl⟩ : ∃ o r, l2 = o :: r := by cases l2 with | nil => simp at hl2 | cons o r => exact ⟨o, r, rfl⟩
 obtain ⟨o3, r3, rfl⟩ : ∃ o r, l3 = o :: r := by cases l3 with | nil => simp at hl3 | cons o r => exact ⟨o, r, rfl⟩
 obtain ⟨a1, b1⟩ := head_of hl1
 obtain ⟨a2, b2⟩ := head_of hl2
 obtain ⟨a3, b3⟩ := head_of hl3
 have e1 : n = (r1.length + extra ts1) + 1 := by have := Nat.eq_of_beq_eq_true c8; rw [this]; exact fuel_succ r1 _
 have e2 : n = (r2.length + extra ts2) + 1 := by have := Nat.eq_of_beq_eq_true c9; rw [this]; exact fuel_succ r2 _
 have e3 : n = (r3.length + extra ts3) + 1 := by have := Nat.eq_of_beq_eq_true c10; rw [this]; exact fuel_succ r3 _
 have w1 := h1 a ha D' A' listed o1 r1 rfl hm a1 b1 (hm.ready c4) c11
 have w2 := h2 a ha D' A' listed o2 r2 rfl hm a2 b2 (hm.ready c5) c12
 have w3 := h3 a ha D' A' listed o3 r3 rfl hm a3 b3 (hm.ready c6) c13
 have e0 : r1.length + extra ts1 = r2.length + extra ts2 := by omega
 have e0' : r1.length + extra ts1 = r3.length + extra ts3 := by omega
 show wpMix P .any ops _ _ _ row (0 + n) listed a w
 rw [Nat.zero_add, e1]
 refine ⟨fun h => (by have := hm.ready c4; rw [h] at this; cases this), fun j hj => ?_⟩
 rcases hm.only3 c7 j hj with rfl | rfl | rfl
 ·rw [if_pos c1]; exact w1
 ·rw [if_pos c2, e0]; exact w2
 ·rw [if_pos c3, e0']; exact w3
theorem wl_forkf3 {row : Rw} {m L C n k1 k2 k3 : Nat} {ops : List Oper} (R : Fr → Fr → World → Prop) (D A : List Nat) (ord1 ord2 ord3 ordR : List Nat) (ts1 ts2 ts3 tsR : List (Tag × Nat)) (hD : ops.map (dmask .any) = D) (hA : ancs .any ops [] = A)
  (hc : (Nat.testBit L k1 && (Nat.testBit L k2 && (Nat.testBit L k3 && (rdyK D m k1 && (rdyK D m k2 && (rdyK D m k3 && (Go.Proofs.YtahkeoegbjopfaaGreat.only3 m k1 k2 k3 D 0 && (Nat.beq n ((inOrder ops ord1).length + extra ts1) && (Nat.beq n ((inOrder ops ord2).length + extra ts2) && (Nat.beq n ((inOrder ops ord3).length + extra ts3) && (chk ops.toArray ops D A L C ts1 (m ||| 2 ^ k1) && (chk ops.toArray ops D A L C ts2 (m ||| 2 ^ k2) && chk ops.toArray ops D A L C ts3 (m ||| 2 ^ k3))))))))))))) = true)
  (hl1 : (inOrder ops ord1).map some = ops.toArray[k1]? :: opsOf ops.toArray ts1) (hl2 : (inOrder ops ord2).map some = ops.toArray[k2]? :: opsOf ops.toArray ts2) (hl3 : (inOrder ops ord3).map some = ops.toArray[k3]? :: opsOf ops.toArray ts3)
  (h0 : ∀ fr' w, R fr fr' w → WL P fn F N ks ops.toArray (some (row, tsR)) (inOrder ops ordR) fr' w)
  (h1 : (∀ fr' w, R fr fr' w → WL P fn F N ks ops.toArray (some (row, tsR)) (inOrder ops ordR) fr' w) → WL P fn F N ks ops.toArray (some (row, (.g m L C, k1) :: ts1)) (inOrder ops ord1) fr w)
  (h2 : (∀ fr' w, R fr fr' w → WL P fn F N ks ops.toArray (some (row, tsR)) (inOrder ops ordR) fr' w) → WL P fn F N ks ops.toArray (some (row, (.g m L C, k2) :: ts2)) (inOrder ops ord2) fr w)
  (h3 : (∀ fr' w, R fr fr' w → WL P fn F N ks ops.toArray (some (row, tsR)) (inOrder ops ordR) fr' w) → WL P fn F N ks ops.toArray (some (row, (.g m L C, k3) :: ts3)) (inOrder ops ord3) fr w) : WL P fn F N ks ops.toArray (some (row, [(.f m L C, n)])) [] fr w :=
 wl_fork3 D A hD hA hc hl1 hl2 hl3 (h1 h0) (h2 h0) (h3 h0)
theorem wl_fork3j {row : Rw} {m L C n k1 k2 k3 : Nat} {ops : List Oper} (R : Fr → World → Prop) (D A : List Nat) (ord1 ord2 ord3 ordR : List Nat) (ts1 ts2 ts3 tsR : List (Tag × Nat)) (hD : ops.map (dmask .any) = D) (hA : ancs .any ops [] = A)
  (hc : (Nat.testBit L k1 && (Nat.testBit L k2 && (Nat.testBit L k3 && (rdyK D m k1 && (rdyK D m k2 && (rdyK D m k3 && (Go.Proofs.YtahkeoegbjopfaaGreat.only3 m k1 k2 k3 D 0 && (Nat.beq n ((inOrder ops ord1).length + extra ts1) && (Nat.beq n ((inOrder ops ord2).length + extra ts2) && (Nat.beq n ((inOrder ops ord3).length + extra ts3) && (chk ops.toArray ops D A L C ts1 (m ||| 2 ^ k1) && (chk ops.toArray ops D A L C ts2 (m ||| 2 ^ k2) && chk ops.toArray ops D A L C ts3 (m ||| 2 ^ k3))))))))))))) = true)
  (hl1 : (inOrder ops ord1).map some = ops.toArray[k1]? :: opsOf ops.toArray ts1) (hl2 : (inOrder ops ord2).map some = ops.toArray[k2]? :: opsOf ops.toArray ts2) (hl3 : (inOrder ops ord3).map some = ops.toArray[k3]? :: opsOf ops.toArray ts3)
  (h0 : ∀ fr' w, R fr' w → WL P fn F N ks ops.toArray (some (row, tsR)) (inOrder ops ordR) fr' w)
  (h1 : (∀ fr' w, R fr' w → WL P fn F N ks ops.toArray (some (row, tsR)) (inOrder ops ordR) fr' w) → WL P fn F N ks ops.toArray (some (row, (.g m L C, k1) :: ts1)) (inOrder ops ord1) fr w)
  (h2 : (∀ fr' w, R fr' w → WL P fn F N ks ops.toArray (some (row, tsR)) (inOrder ops ordR) fr' w) → WL P fn F N ks ops.toArray (some (row, (.g m L C, k2) :: ts2)) (inOrder ops ord2) fr w)
  (h3 : (∀ fr' w, R fr' w → WL P fn F N ks ops.toArray (some (row, tsR)) (inOrder ops ordR) fr' w) → WL P fn F N ks ops.toArray (some (row, (.g m L C, k3) :: ts3)) (inOrder ops ord3) fr w) : WL P fn F N ks ops.toArray (some (row, [(.f m L C, n)])) [] fr w :=
 wl_fork3 D A hD hA hc hl1 hl2 hl3 (h1 h0) (h2 h0) (h3 h0)
end
end Go.Proofs.YtahkeoegbjopfaaGreat
/-
  Walks of the kit's functions: a state copied.
-/
namespace Go.Proofs.YtahkeoegbjopfaaGreat
set_option maxRecDepth 100000
open Go.RowKit
section
variable {fn : Func} {F : Ending → World → Prop} {N : Nat} {ks : List K} {ops : Array Oper} {tg : Tags} {l : List Oper} {fr : Fr} {w w0 : World} {ty : TypeId} {pos : String} {aft : Array Edge} {gd : Option (Nat × Bool)} {d j q lo hi : Nat} {x y : Operand} {A B : Option Addr} {M : List Ky}
theorem wl_appKs0 (hx : fr.ev x = some (.slice A 0 0)) (hown : OwnKs w lo hi A 0 []) (hy : fr.ev y = some (.slice B j q)) (hr : RKs w0 B M) (hb : Below w0.heap.size w0 w) (hj : j = M.length) (hlen : M.length ≤ 1000000) (hB : lo ≤ w.heap.size)
  (h : ∀ A' c' w', OwnKs w' lo w'.heap.size A' c' M → Below w.heap.size w w' → WL Tryz.prog fn F N ks ops tg.tail l ((d, .slice A' M.length c') :: fr) w')
  (ht : tg.loud = true := by rfl) (hg : onG ops fr gd = true := by rfl) (hd : Nat.blt d N = true := by rfl) :
  WL Tryz.prog fn F N ks ops tg (⟨some d, .call { callee := .builtin .append, args := #[x, y], argTypes := #[29, 29] }, ty, pos, aft, gd⟩ :: l) fr w := by
 subst hj
 obtain ⟨xs, g1, g2⟩ := hown
 obtain rfl : xs = [] := List.eq_nil_of_length_eq_zero (by have := g1.rd.1; simpa using this)
 obtain ⟨ms, r1, r3⟩ := RSl.u hr hb
 refine wl_appR0 Tryz.rowKs hx g1 hy r1 (fun u hu => ?_) (by simp only [maxLen]; omega) (by omega) hB (fun A' c' w' k1 k2 => h A' c' w' ⟨ms, k1, fun i hi => ?_⟩ k2) ht hg hd
 ·obtain ⟨i, hi, rfl⟩ := List.getElem_of_mem hu
  have hml : ms.length = M.length * 32 := r1.1
  have hq : i / 32 < M.length := by omega
  refine gKey_one w _ _ (r3 _ hq) _ (List.mem_of_getElem? (i := i % 32) ?_)
  show (part ms 32 (i / 32))[i % 32]? = some ms[i]
  rw [part_get (Nat.mod_lt _ (by omega)), Nat.div_add_mod' i 32]
  exact List.getElem?_eq_getElem hi
 ·exact r3 i hi
end
def ItV (w : World) (A : Option Addr) (j : Nat) (V : Option Addr) (m d : Nat) : Prop := ∃ v0, CellsAt w A (j * 2) [v0, .slice V m d]
theorem ItV.u {w w' : World} {A V : Option Addr} {j m d : Nat} (h : ItV w A j V m d) (hb : Below w.heap.size w w') : ItV w' A j V m d := by
 obtain ⟨v0, h1⟩ := h
 exact ⟨v0, h1.u hb⟩
theorem o_ldItV {N : Nat} {fr : Fr} {w w0 : World} {ty : TypeId} {x : Operand} {A V : Option Addr} {j o m d : Nat} (hx : fr.ev x = some (.pointer (some (adr A (j * 2 + o))))) (ho : o = 1) (h : ItV w0 A j V m d) (hb : Below w0.heap.size w0 w) : OpV Tryz.prog N fr w (.load 39 x) ty (.slice V m d) w := by
 subst ho
 obtain ⟨v0, h1⟩ := h.u hb
 exact o_load (t := 39) Tryz.isAgg39 hx (h1 1 _ rfl)
set_option maxRecDepth 100000 in
set_option maxHeartbeats 2000000 in
theorem C_kOwnState {A B C : Option Addr} {I : List (By × By)} {X Y : List Ky} {n c m d q e : Nat} (w : World) (hA : RI w A I) (hB : RKs w B X) (hC : RKs w C Y) (hn : n = I.length) (hm : m = X.length) (hq : q = Y.length) (hl : I.length ≤ 400000) (hl2 : X.length ≤ 400000) (hl3 : Y.length ≤ 400000) (hL : LtI I) :
  CallsR Tryz.prog 16 [.agg #[.slice A n c, .slice B m d, .slice C q e]] w fun v w' => ∃ A' c' B' d' C' e', v = .agg #[.slice A' I.length c', .slice B' X.length d', .slice C' Y.length e'] ∧ OwnI w' w.heap.size w'.heap.size A' c' I ∧ OwnKs w' w.heap.size w'.heap.size B' d' X ∧ OwnKs w' w.heap.size w'.heap.size C' e' Y ∧ Below w.heap.size w w' := by
 subst hn; subst hm; subst hq
 refine callsR Tryz.func16 rfl rfl (by kernel_rfl) rfl ?_
 have hw := Below.refl w.heap.size w
 refine rk_seq ?_
 refine rk_region ?_
 refine wl_boxg [_, _, _] rfl (by rfl) ?_
 rintro g1 w1 f1 b1 i1 i1_1
 have s1 := b1.size
 replace hw := hw.trans (b1.mono hw.size)
 refine wl_allocg [_, _, _] Tryz.zeroValue31 (by rfl) ?_
 rintro g2 w2 f2 b2 i2 i2_1
 have s2 := b2.size
 replace hw := hw.trans (b2.mono hw.size)
 replace f1 := f1.u b2
 refine wl_nil ?_
 refine rk_seq ?_
 refine rk_drawoB (id := 1) (none) [0, 0, 2, 5, 0, 0, 32, 88, 136, 0, 1023] [0, 0, 2, 7, 0, 0, 32, 127, 255, 0, 1023] 1689 537 [1, 2, 5, 6] [(.p, 1), (.s, 2), (.p, 5), (.s, 6), (.f 102 1689 537, 7)] (by kernel_rfl) (by kernel_rfl) (by kernel_rfl) (by kernel_rfl) (by kernel_rfl) ?_
 dsimp only [inOrder, nthOp]
 replace hw := hw.drew
 replace f1 := f1.d
 replace f2 := f2.d
 refine wl_p (fun _ => o_faddr (s := 31) (i := 1) (off := 1) Tryz.underlying31 rfl Tryz.sizeOf29 rfl rfl rfl) ?_
 refine wl_s (fun _ hk => (o_loadbg Tryz.isAgg29 rfl (f1.u (below_of_ok hk (Nat.le_refl _) (fun _ e => by cases e))) (by rfl))) ?_
 refine wl_p (fun _ => o_faddr (s := 31) (i := 2) (off := 2) Tryz.underlying31 rfl Tryz.sizeOf29 rfl rfl rfl) ?_
 refine wl_s (fun _ hk => (o_loadbg Tryz.isAgg29 rfl (f1.u (below_of_ok hk (Nat.le_refl _) (fun _ e => by cases e))) (by rfl))) ?_
 have szw := hw.size
 have hdr : w2.drew.heap.size = w2.heap.size := rfl
 refine wl_forkf3 (m := 102) (L := 1689) (C := 537) (n := 7) (k1 := 0) (k2 := 4) (k3 := 9) (fun fb fr V => ∃ (A8 : Option Addr) (c8 : Nat) (A12 : Option Addr) (c12 g3 : Nat), fr = [(3, .pointer (some ⟨g3, 0, none⟩)), (13, .agg #[.slice none 0 0, .slice A8 X.length c8, .slice A12 Y.length c12])] ++ fb ∧ OwnKs V w2.heap.size V.heap.size A8 c8 X ∧ OwnKs V w2.heap.size V.heap.size A12 c12 Y ∧ Blk V g3 31 [.slice none 0 0, .slice none 0 0, .slice none 0 0] ∧ Blk V g1 31 [.slice A I.length c, .slice B X.length d, .slice C Y.length e] ∧ Blk V g2 31 [.slice none 0 0, .slice none 0 0, .slice none 0 0] ∧ w2.heap.size ≤ g3 ∧ Below w.heap.size w V) [0, 0, 2, 5, 0, 0, 32, 88, 136, 0, 1023] [0, 0, 2, 7, 0, 0, 32, 127, 255, 0, 1023] [0] [4] [9] [10] [(.f 103 1689 537, 6)] [(.f 118 1689 537, 6)] [(.f 614 1689 537, 6)] [(.l, 10)] (by kernel_rfl) (by kernel_rfl) (by kernel_rfl) (by kernel_rfl) (by kernel_rfl) (by kernel_rfl) ?_ (fun hj => ?_) (fun hj => ?_) (fun hj => ?_) <;> dsimp only [inOrder, nthOp]
 ·clear f1 f2 hw
  rintro fr V ⟨A8, c8, A12, c12, g3, rfl, f8, f12, f3, f1, f2, hg3, hw⟩
  have hgV : w2.heap.size ≤ V.heap.size := by have := f3.lt; omega
  first | refine rk_frame (by simp only [List.cons_append, List.nil_append, List.drop_succ_cons, List.drop_zero]; rfl) ?_ | refine wl_frame (by simp only [List.cons_append, List.nil_append, List.drop_succ_cons, List.drop_zero]; rfl) ?_
  refine wl_storega Tryz.sizeOf31 rfl rfl (by rfl) (oneCell_of (by rfl)) f3 (by rfl) ?_
  rintro w_1 f g e_1
  have s := g.size
  replace hw := hw.trans (below_of_grownBy g.g hw.size (by omega))
  replace f2 := f2.k g.g (ap_some (by omega))
  replace f1 := f1.k g.g (ap_some (by omega))
  replace f12 := f12.y g (by decide)
  replace f8 := f8.y g (by decide)
  clear f3
  refine wl_nild ?_
  refine rk_seq ?_
  refine rk_seq ?_
  refine rk_region ?_
  refine wl_p (fun _ => o_assign rfl) ?_
  refine wl_nil ?_
  refine rk_block ?_
  have hw9 := hw.size
  refine rk_joinf (fun fb fr V2 => ∃ A' c', fr = [] ++ fb.drop 1 ∧ OwnI V2 w2.heap.size V2.heap.size A' c' I ∧ OwnKs V2 w2.heap.size V.heap.size A8 c8 X ∧ OwnKs V2 w2.heap.size V.heap.size A12 c12 Y ∧ Blk V2 g3 31 [.slice A' I.length c', .slice A8 X.length c8, .slice A12 Y.length c12] ∧ Blk V2 g1 31 [.slice A I.length c, .slice B X.length d, .slice C Y.length e] ∧ Blk V2 g2 31 [.slice none 0 0, .slice none 0 0, .slice none 0 0] ∧ V.heap.size ≤ V2.heap.size ∧ Below w.heap.size w V2) ?_ (fun ks hj => ?_)
  rotate_left
  ·refine rk_loopf (fun fb k fr V2 => ∃ (i : Nat) (v : Int) (A' : Option Addr) (c' : Nat) (J : List (By × By)), fr = [(4, .int .i64 v)] ++ fb.drop 1 ∧ v = i ∧ i ≤ I.length ∧ k = I.length - i ∧ J = I.take i ∧ OwnI V2 w2.heap.size V2.heap.size A' c' J ∧ OwnKs V2 w2.heap.size V.heap.size A8 c8 X ∧ OwnKs V2 w2.heap.size V.heap.size A12 c12 Y ∧ Blk V2 g3 31 [.slice A' J.length c', .slice A8 X.length c8, .slice A12 Y.length c12] ∧ Blk V2 g1 31 [.slice A I.length c, .slice B X.length d, .slice C Y.length e] ∧ Blk V2 g2 31 [.slice none 0 0, .slice none 0 0, .slice none 0 0] ∧ V.heap.size ≤ V2.heap.size ∧ Below w.heap.size w V2) (n := I.length) (Fr.le_of (by kernel_rfl) (by kernel_rfl) (by repeat' constructor)) ⟨0, _, none, 0, [], rfl, rfl, by omega, rfl, rfl, OwnI.nil_, f8, f12, f, f1, f2, by omega, hw⟩ ?_
   clear hw f8 f12 f f1 f2
   rintro k fr V2 ⟨i, v, A', c', J, rfl, rfl, hi, rfl, hJ, fo, f8, f12, f, f1, f2, hsz, hw⟩
   have shw := hw.size
   have hJl : J.length = i := by rw [hJ, List.length_take]; omega
   first | refine rk_frame (by simp only [List.cons_append, List.nil_append, List.drop_succ_cons, List.drop_zero]; rfl) ?_ | refine wl_frame (by simp only [List.cons_append, List.nil_append, List.drop_succ_cons, List.drop_zero]; rfl) ?_
   refine rk_seq ?_
   refine rk_seq ?_
   refine rk_region ?_
   refine wl_p (fun _ => o_move rfl) ?_
   refine wl_p (fun _ => o_faddr (s := 31) (i := 0) (off := 0) Tryz.underlying31 rfl Tryz.sizeOf28 rfl rfl rfl) ?_
   refine wl_r (o_loadbg Tryz.isAgg28 rfl f1 (by rfl)) ?_
   refine wl_p (fun _ => o_len (t := 28) Tryz.underlying28 rfl) ?_
   refine wl_p (fun _ => o_lt rfl rfl) ?_
   refine wl_nil ?_
   refine rk_if rfl (fun h18 => ?_) (fun h18 => ?_)
   ·have hil : i < I.length := by omega
    obtain ⟨n1, n2⟩ := hL _ (List.getElem_mem hil)
    obtain ⟨Ai, ci, Vi, di, hcell, r1, r2, r3, r4⟩ := hA.elem hil
    have hiv : ItV w A i Vi I[i].2.length di := ⟨_, hcell⟩
    clear hcell
    refine rk_skip ?_
    refine rk_seq ?_
    refine rk_block ?_
    refine rk_drawo (id := 5) (none) [0, 1, 0, 4, 0, 24, 32, 64, 128, 0, 512, 0, 3072, 4096, 8192, 16640, 33024, 65536, 163842, 524287, 1048575] [0, 1, 0, 4, 0, 28, 60, 124, 252, 0, 512, 0, 3584, 7680, 15872, 32764, 65532, 131068, 262143, 524287, 1048575] 1474816 164096 [0, 1, 2, 3, 4, 5, 6, 7, 9, 10, 11, 12, 13, 14, 8, 15, 16, 17, 18, 19, 20] [(.p, 0), (.s, 1), (.p, 2), (.r, 3), (.p, 4), (.p, 5), (.p, 6), (.r, 7), (.p, 9), (.s, 10), (.p, 11), (.p, 12), (.p, 13), (.s, 14), (.c, 8), (.c, 15), (.p, 16), (.c, 17), (.l, 18), (.p, 19), (.l, 20)] (by kernel_rfl) (by kernel_rfl) (by kernel_rfl) (by kernel_rfl) (by kernel_rfl) ?_
    dsimp only [inOrder, nthOp]
    replace hw := hw.drew
    replace f2 := f2.d
    replace f1 := f1.d
    replace f := f.d
    replace f12 := f12.d
    replace f8 := f8.d
    replace fo := fo.d
    refine wl_p (fun _ => o_faddr (s := 31) (i := 0) (off := 0) Tryz.underlying31 rfl Tryz.sizeOf28 rfl rfl rfl) ?_
    refine wl_s (fun _ hk => (o_loadbg Tryz.isAgg28 rfl (f.u (below_of_grown_none hk)) (by rfl))) ?_
    refine wl_p (fun _ => o_faddr (s := 31) (i := 0) (off := 0) Tryz.underlying31 rfl Tryz.sizeOf28 rfl rfl rfl) ?_
    refine wl_r (o_loadbg Tryz.isAgg28 rfl f1 (by rfl)) ?_
    refine wl_p (fun _ => o_move rfl) ?_
    refine wl_p (fun _ => (o_iaddrA (i) Tryz.underlying28 Tryz.sizeOf94 rfl rfl rfl (hA.some_ (by omega)) (by omega))) ?_
    refine wl_p (fun _ => (o_faddrR rfl Tryz.underlying94 (by rfl) Tryz.sizeOf39 (by rfl) (by rfl))) ?_
    refine wl_ldKey rfl hA hw (by omega) ?_
    rintro A128 c128 f28 i28
    refine wl_p (fun _ => o_faddr (s := 31) (i := 0) (off := 0) Tryz.underlying31 rfl Tryz.sizeOf28 rfl rfl rfl) ?_
    refine wl_s (fun _ hk => (o_loadbg Tryz.isAgg28 rfl (f1.u (below_of_grown_none hk)) (by rfl))) ?_
    refine wl_p (fun _ => o_move rfl) ?_
    refine wl_p (fun _ => (o_iaddrA (i) Tryz.underlying28 Tryz.sizeOf94 rfl rfl rfl (hA.some_ (by omega)) (by omega))) ?_
    refine wl_p (fun _ => (o_faddrR rfl Tryz.underlying94 (by rfl) Tryz.sizeOf39 (by rfl) (by rfl))) ?_
    refine wl_s (fun _ hk => (o_ldItV rfl (by rfl) hiv (hw.trans ((below_of_grown_none hk).mono hw.size)))) ?_
    refine wl_call rfl (C_kOwn _ (f28.u hw) rfl (by omega)) ?_ (hq := .inr fun _ _ h => grown_of_below h.choose_spec.choose_spec.2.2 _)
    rintro v29 w29 ⟨A29, ⟨c29, ⟨rfl, ⟨f29, b29⟩⟩⟩⟩
    simp only [drew_size] at f29
    simp only [drew_size] at b29
    have qf29 := f29.cap
    have s29 := b29.size
    simp only [drew_size] at s29
    replace hw := hw.trans (b29.mono hw.size)
    replace fo := fo.u b29
    replace f8 := f8.u b29
    replace f12 := f12.u b29
    replace f := f.u b29
    replace f1 := f1.u b29
    replace f2 := f2.u b29
    refine wl_call rfl (C_kOwn _ (r2.u hw) rfl (by omega)) ?_ (hq := .inr fun _ _ h => grown_of_below h.choose_spec.choose_spec.2.2 _)
    rintro v36 w36 ⟨A36, ⟨c36, ⟨rfl, ⟨f36, b36⟩⟩⟩⟩
    have qf36 := f36.cap
    have s36 := b36.size
    replace hw := hw.trans (b36.mono hw.size)
    replace f2 := f2.u b36
    replace f1 := f1.u b36
    replace f := f.u b36
    replace f12 := f12.u b36
    replace f8 := f8.u b36
    replace fo := fo.u b36
    replace f29 := f29.u b36
    refine wl_p (fun _ => (o_buildg [_, _] Tryz.underlying94 Tryz.zeroValue94 (by rfl) (by rfl) rfl (by rfl) (by rfl) (fun _ => by kernel_rfl))) ?_
    have m1 := own_max f29
    have m2 := own_max f36
    refine wl_litItm (by rfl) rfl f29.to_RdT f36.to_RdT rfl rfl (by omega) (by omega) (by omega) (by omega) (by rfl) ?_
    rintro A38 w38 f38 b38
    have qf38 := f38.cap
    have s38 := b38.size
    replace hw := hw.trans (b38.mono hw.size)
    replace f29 := f29.u b38
    replace fo := fo.u b38
    replace f8 := f8.u b38
    replace f12 := f12.u b38
    replace f := f.u b38
    replace f1 := f1.u b38
    replace f2 := f2.u b38
    replace f36 := f36.u b38
    refine wl_appItm rfl fo rfl rfl f38.to_RIT (by rfl) (by omega) (by omega) ?_
    rintro A39 c39 w39 f39 g39 b39
    have qf39 := f39.cap
    have s39 := g39.size
    replace hw := hw.trans (b39.mono (by omega))
    replace f36 := f36.y g39 (by decide)
    replace f2 := f2.y g39 (by decide)
    replace f1 := f1.y g39 (by decide)
    replace f := f.y g39 (by decide)
    replace f12 := f12.y g39 (by decide)
    replace f8 := f8.y g39 (by decide)
    replace f29 := f29.y g39 (by decide)
    replace f38 := f38.q g39 (fo.ap (by omega)) (by decide)
    clear fo
    refine wl_p (fun _ => o_faddr (s := 31) (i := 0) (off := 0) Tryz.underlying31 rfl Tryz.sizeOf28 rfl rfl rfl) ?_
    refine wl_storeg1 Tryz.sizeOf28 rfl rfl (by rfl) f (by simp) ?_
    rintro w_2 f_1 g_1 e_2
    have s_1 := g_1.size
    replace hw := hw.trans (below_of_grownBy g_1.g hw.size (by omega))
    replace f38 := f38.y g_1 (by decide)
    replace f29 := f29.y g_1 (by decide)
    replace f8 := f8.y g_1 (by decide)
    replace f12 := f12.y g_1 (by decide)
    replace f1 := f1.k g_1.g (ap_some (by omega))
    replace f2 := f2.k g_1.g (ap_some (by omega))
    replace f36 := f36.y g_1 (by decide)
    replace f39 := f39.y g_1 (by decide)
    clear f
    refine wl_nild ?_
    refine rk_blk ?_
    refine rk_region ?_
    refine wl_p (fun _ => o_move rfl) ?_
    refine wl_p (fun _ => o_add rfl rfl (by omega) (by omega)) ?_
    refine wl_p (fun _ => o_assign rfl) ?_
    refine wl_nil ?_
    exact rk_againf (Fr.le_of (by kernel_rfl) (by kernel_rfl) (by repeat' constructor)) ⟨i + 1, (i : Int) + 1, A39, c39, J ++ [(I[i].1, I[i].2)], rfl, by omega, by omega, rfl, by rw [hJ, List.take_succ_eq_append_getElem hil], f39.base (by omega) (by omega), f8, f12, by assumption, f1, f2, by omega, hw⟩ (by omega)
   ·refine rk_exit rfl ?_
    obtain rfl : i = I.length := by omega
    rw [List.take_length] at hJ
    subst hJ
    exact rk_tof hj (Fr.le_of (by kernel_rfl) (by kernel_rfl) (by repeat' constructor)) ⟨A', c', rfl, fo, f8, f12, f, f1, f2, hsz, hw⟩
  clear hw f8 f12 f f1 f2
  rintro fr V2 ⟨A', c', rfl, fo, f8, f12, f, f1, f2, hsz, hw⟩
  have shw := hw.size
  first | refine rk_frame (by simp only [List.cons_append, List.nil_append, List.drop_succ_cons, List.drop_zero]; rfl) ?_ | refine wl_frame (by simp only [List.cons_append, List.nil_append, List.drop_succ_cons, List.drop_zero]; rfl) ?_
  refine rk_seq ?_
  refine rk_region ?_
  refine wl_r (o_loadag Tryz.isAgg31 Tryz.sizeOf31 rfl f (by rfl)) ?_
  refine wl_storega Tryz.sizeOf31 rfl rfl (by rfl) (oneCell_of (by rfl)) f2 (by rfl) ?_
  rintro w_2 f_1 g_1 e_2
  have s_1 := g_1.size
  replace hw := hw.trans (below_of_grownBy g_1.g hw.size (by omega))
  replace f1 := f1.k g_1.g (ap_some (by omega))
  replace f := f.k g_1.g (ap_some (by omega))
  replace f12 := f12.y g_1 (by decide)
  replace f8 := f8.y g_1 (by decide)
  replace fo := fo.y g_1 (by decide)
  clear f2
  refine wl_nil ?_
  refine ret_cell rfl rfl Tryz.isAgg31 Tryz.sizeOf31 (by assumption) rfl ?_
  exact ⟨_, _, _, _, _, _, rfl, fo.base (by omega) (by omega), f8.base (by omega) (by omega), f12.base (by omega) (by omega), hw⟩
 ·refine wl_litKs0 (by rfl) rfl (by rfl) ?_
  rintro A5 w5 f5 b5
  simp only [drew_size] at f5
  simp only [drew_size] at b5
  have qf5 := f5.cap
  have s5 := b5.size
  simp only [drew_size] at s5
  replace hw := hw.trans (b5.mono hw.size)
  replace f2 := f2.u b5
  replace f1 := f1.u b5
  refine wl_fork3j (m := 103) (L := 1689) (C := 537) (n := 6) (k1 := 3) (k2 := 4) (k3 := 9) _ [0, 0, 2, 5, 0, 0, 32, 88, 136, 0, 1023] [0, 0, 2, 7, 0, 0, 32, 127, 255, 0, 1023] [3] [4] [9] [10] [(.f 111 1689 537, 5)] [(.f 119 1689 537, 5)] [(.f 615 1689 537, 5)] [(.l, 10)] (by kernel_rfl) (by kernel_rfl) (by kernel_rfl) (by kernel_rfl) (by kernel_rfl) (by kernel_rfl) hj (fun hj => ?_) (fun hj => ?_) (fun hj => ?_) <;> dsimp only [inOrder, nthOp]
  ·refine wl_appKs0 rfl f5 rfl hB hw rfl (by omega) (by omega) ?_
   rintro A8 c8 w8 f8 b8
   have qf8 := f8.cap
   have s8 := b8.size
   replace hw := hw.trans (b8.mono hw.size)
   replace f1 := f1.u b8
   replace f2 := f2.u b8
   replace f5 := f5.u b8
   refine wl_fork2j (m := 111) (L := 1689) (C := 537) (n := 5) (k1 := 4) (k2 := 9) _ [0, 0, 2, 5, 0, 0, 32, 88, 136, 0, 1023] [0, 0, 2, 7, 0, 0, 32, 127, 255, 0, 1023] [4] [9, 4, 7, 8, 10] [10] [(.f 127 1689 537, 4)] [(.c, 4), (.l, 7), (.p, 8), (.l, 10)] [(.l, 10)] (by kernel_rfl) (by kernel_rfl) (by kernel_rfl) (by kernel_rfl) (by kernel_rfl) hj (fun hj => ?_) (fun hj => ?_) <;> dsimp only [inOrder, nthOp]
   ·refine wl_litKs0 (by rfl) rfl (by rfl) ?_
    rintro A9 w9 f9 b9
    have qf9 := f9.cap
    have s9 := b9.size
    replace hw := hw.trans (b9.mono hw.size)
    replace f5 := f5.u b9
    replace f2 := f2.u b9
    replace f1 := f1.u b9
    replace f8 := f8.u b9
    refine wl_fork2j (m := 127) (L := 1689) (C := 537) (n := 4) (k1 := 7) (k2 := 9) _ [0, 0, 2, 5, 0, 0, 32, 88, 136, 0, 1023] [0, 0, 2, 7, 0, 0, 32, 127, 255, 0, 1023] [7, 8, 9, 10] [9, 7, 8, 10] [10] [(.p, 8), (.c, 9), (.l, 10)] [(.l, 7), (.p, 8), (.l, 10)] [(.l, 10)] (by kernel_rfl) (by kernel_rfl) (by kernel_rfl) (by kernel_rfl) (by kernel_rfl) hj (fun hj => ?_) (fun hj => ?_) <;> dsimp only [inOrder, nthOp]
    ·refine wl_appKs0 rfl f9 rfl hC hw rfl (by omega) (by omega) ?_
     rintro A12 c12 w12 f12 b12
     have qf12 := f12.cap
     have s12 := b12.size
     replace hw := hw.trans (b12.mono hw.size)
     replace f8 := f8.u b12
     replace f1 := f1.u b12
     replace f2 := f2.u b12
     replace f5 := f5.u b12
     replace f9 := f9.u b12
     refine wl_p (fun _ => (o_buildg [_, _, _] Tryz.underlying31 Tryz.zeroValue31 (by rfl) (by rfl) rfl (by rfl) (by rfl) (fun _ => by kernel_rfl))) ?_
     refine wl_allocg [_, _, _] Tryz.zeroValue31 (by rfl) ?_
     rintro g3 w3 f3 b3 i3 i3_1
     have s3 := b3.size
     replace hw := hw.trans (b3.mono hw.size)
     replace f9 := f9.u b3
     replace f5 := f5.u b3
     replace f2 := f2.u b3
     replace f1 := f1.u b3
     replace f8 := f8.u b3
     replace f12 := f12.u b3
     exact wl_tof hj (Fr.le_of (by kernel_rfl) (by kernel_rfl) (by repeat' constructor)) ⟨_, _, _, _, _, rfl, f8.base (by omega) (by omega), f12.base (by omega) (by omega), f3, f1, f2, by omega, hw⟩
    ·refine wl_allocg [_, _, _] Tryz.zeroValue31 (by rfl) ?_
     rintro g3 w3 f3 b3 i3 i3_1
     have s3 := b3.size
     replace hw := hw.trans (b3.mono hw.size)
     replace f8 := f8.u b3
     replace f1 := f1.u b3
     replace f2 := f2.u b3
     replace f5 := f5.u b3
     replace f9 := f9.u b3
     refine wl_appKs0 rfl f9 rfl hC hw rfl (by omega) (by omega) ?_
     rintro A12 c12 w12 f12 b12
     have qf12 := f12.cap
     have s12 := b12.size
     replace hw := hw.trans (b12.mono hw.size)
     replace f9 := f9.u b12
     replace f5 := f5.u b12
     replace f2 := f2.u b12
     replace f1 := f1.u b12
     replace f8 := f8.u b12
     replace f3 := f3.u b12
     refine wl_p (fun _ => (o_buildg [_, _, _] Tryz.underlying31 Tryz.zeroValue31 (by rfl) (by rfl) rfl (by rfl) (by rfl) (fun _ => by kernel_rfl))) ?_
     exact wl_tof hj (Fr.le_of (by kernel_rfl) (by kernel_rfl) (by repeat' constructor)) ⟨_, _, _, _, _, rfl, f8.base (by omega) (by omega), f12.base (by omega) (by omega), f3, f1, f2, by omega, hw⟩
   ·refine wl_allocg [_, _, _] Tryz.zeroValue31 (by rfl) ?_
    rintro g3 w3 f3 b3 i3 i3_1
    have s3 := b3.size
    replace hw := hw.trans (b3.mono hw.size)
    replace f5 := f5.u b3
    replace f2 := f2.u b3
    replace f1 := f1.u b3
    replace f8 := f8.u b3
    refine wl_litKs0 (by rfl) rfl (by rfl) ?_
    rintro A9 w9 f9 b9
    have qf9 := f9.cap
    have s9 := b9.size
    replace hw := hw.trans (b9.mono hw.size)
    replace f8 := f8.u b9
    replace f1 := f1.u b9
    replace f2 := f2.u b9
    replace f5 := f5.u b9
    replace f3 := f3.u b9
    refine wl_appKs0 rfl f9 rfl hC hw rfl (by omega) (by omega) ?_
    rintro A12 c12 w12 f12 b12
    have qf12 := f12.cap
    have s12 := b12.size
    replace hw := hw.trans (b12.mono hw.size)
    replace f3 := f3.u b12
    replace f5 := f5.u b12
    replace f2 := f2.u b12
    replace f1 := f1.u b12
    replace f8 := f8.u b12
    replace f9 := f9.u b12
    refine wl_p (fun _ => (o_buildg [_, _, _] Tryz.underlying31 Tryz.zeroValue31 (by rfl) (by rfl) rfl (by rfl) (by rfl) (fun _ => by kernel_rfl))) ?_
    exact wl_tof hj (Fr.le_of (by kernel_rfl) (by kernel_rfl) (by repeat' constructor)) ⟨_, _, _, _, _, rfl, f8.base (by omega) (by omega), f12.base (by omega) (by omega), f3, f1, f2, by omega, hw⟩
  ·refine wl_litKs0 (by rfl) rfl (by rfl) ?_
   rintro A9 w9 f9 b9
   have qf9 := f9.cap
   have s9 := b9.size
   replace hw := hw.trans (b9.mono hw.size)
   replace f1 := f1.u b9
   replace f2 := f2.u b9
   replace f5 := f5.u b9
   refine wl_fork2j (m := 119) (L := 1689) (C := 537) (n := 5) (k1 := 3) (k2 := 9) _ [0, 0, 2, 5, 0, 0, 32, 88, 136, 0, 1023] [0, 0, 2, 7, 0, 0, 32, 127, 255, 0, 1023] [3] [9, 3, 7, 8, 10] [10] [(.f 127 1689 537, 4)] [(.c, 3), (.l, 7), (.p, 8), (.l, 10)] [(.l, 10)] (by kernel_rfl) (by kernel_rfl) (by kernel_rfl) (by kernel_rfl) (by kernel_rfl) hj (fun hj => ?_) (fun hj => ?_) <;> dsimp only [inOrder, nthOp]
   ·refine wl_appKs0 rfl f5 rfl hB hw rfl (by omega) (by omega) ?_
    rintro A8 c8 w8 f8 b8
    have qf8 := f8.cap
    have s8 := b8.size
    replace hw := hw.trans (b8.mono hw.size)
    replace f5 := f5.u b8
    replace f2 := f2.u b8
    replace f1 := f1.u b8
    replace f9 := f9.u b8
    refine wl_fork2j (m := 127) (L := 1689) (C := 537) (n := 4) (k1 := 7) (k2 := 9) _ [0, 0, 2, 5, 0, 0, 32, 88, 136, 0, 1023] [0, 0, 2, 7, 0, 0, 32, 127, 255, 0, 1023] [7, 8, 9, 10] [9, 7, 8, 10] [10] [(.p, 8), (.c, 9), (.l, 10)] [(.l, 7), (.p, 8), (.l, 10)] [(.l, 10)] (by kernel_rfl) (by kernel_rfl) (by kernel_rfl) (by kernel_rfl) (by kernel_rfl) hj (fun hj => ?_) (fun hj => ?_) <;> dsimp only [inOrder, nthOp]
    ·refine wl_appKs0 rfl f9 rfl hC hw rfl (by omega) (by omega) ?_
     rintro A12 c12 w12 f12 b12
     have qf12 := f12.cap
     have s12 := b12.size
     replace hw := hw.trans (b12.mono hw.size)
     replace f9 := f9.u b12
     replace f1 := f1.u b12
     replace f2 := f2.u b12
     replace f5 := f5.u b12
     replace f8 := f8.u b12
     refine wl_p (fun _ => (o_buildg [_, _, _] Tryz.underlying31 Tryz.zeroValue31 (by rfl) (by rfl) rfl (by rfl) (by rfl) (fun _ => by kernel_rfl))) ?_
     refine wl_allocg [_, _, _] Tryz.zeroValue31 (by rfl) ?_
     rintro g3 w3 f3 b3 i3 i3_1
     have s3 := b3.size
     replace hw := hw.trans (b3.mono hw.size)
     replace f8 := f8.u b3
     replace f5 := f5.u b3
     replace f2 := f2.u b3
     replace f1 := f1.u b3
     replace f9 := f9.u b3
     replace f12 := f12.u b3
     exact wl_tof hj (Fr.le_of (by kernel_rfl) (by kernel_rfl) (by repeat' constructor)) ⟨_, _, _, _, _, rfl, f8.base (by omega) (by omega), f12.base (by omega) (by omega), f3, f1, f2, by omega, hw⟩
    ·refine wl_allocg [_, _, _] Tryz.zeroValue31 (by rfl) ?_
     rintro g3 w3 f3 b3 i3 i3_1
     have s3 := b3.size
     replace hw := hw.trans (b3.mono hw.size)
     replace f9 := f9.u b3
     replace f1 := f1.u b3
     replace f2 := f2.u b3
     replace f5 := f5.u b3
     replace f8 := f8.u b3
     refine wl_appKs0 rfl f9 rfl hC hw rfl (by omega) (by omega) ?_
     rintro A12 c12 w12 f12 b12
     have qf12 := f12.cap
     have s12 := b12.size
     replace hw := hw.trans (b12.mono hw.size)
     replace f8 := f8.u b12
     replace f5 := f5.u b12
     replace f2 := f2.u b12
     replace f1 := f1.u b12
     replace f9 := f9.u b12
     replace f3 := f3.u b12
     refine wl_p (fun _ => (o_buildg [_, _, _] Tryz.underlying31 Tryz.zeroValue31 (by rfl) (by rfl) rfl (by rfl) (by rfl) (fun _ => by kernel_rfl))) ?_
     exact wl_tof hj (Fr.le_of (by kernel_rfl) (by kernel_rfl) (by repeat' constructor)) ⟨_, _, _, _, _, rfl, f8.base (by omega) (by omega), f12.base (by omega) (by omega), f3, f1, f2, by omega, hw⟩
   ·refine wl_allocg [_, _, _] Tryz.zeroValue31 (by rfl) ?_
    rintro g3 w3 f3 b3 i3 i3_1
    have s3 := b3.size
    replace hw := hw.trans (b3.mono hw.size)
    replace f5 := f5.u b3
    replace f2 := f2.u b3
    replace f1 := f1.u b3
    replace f9 := f9.u b3
    refine wl_appKs0 rfl f5 rfl hB hw rfl (by omega) (by omega) ?_
    rintro A8 c8 w8 f8 b8
    have qf8 := f8.cap
    have s8 := b8.size
    replace hw := hw.trans (b8.mono hw.size)
    replace f9 := f9.u b8
    replace f1 := f1.u b8
    replace f2 := f2.u b8
    replace f5 := f5.u b8
    replace f3 := f3.u b8
    refine wl_appKs0 rfl f9 rfl hC hw rfl (by omega) (by omega) ?_
    rintro A12 c12 w12 f12 b12
    have qf12 := f12.cap
    have s12 := b12.size
    replace hw := hw.trans (b12.mono hw.size)
    replace f3 := f3.u b12
    replace f5 := f5.u b12
    replace f2 := f2.u b12
    replace f1 := f1.u b12
    replace f9 := f9.u b12
    replace f8 := f8.u b12
    refine wl_p (fun _ => (o_buildg [_, _, _] Tryz.underlying31 Tryz.zeroValue31 (by rfl) (by rfl) rfl (by rfl) (by rfl) (fun _ => by kernel_rfl))) ?_
    exact wl_tof hj (Fr.le_of (by kernel_rfl) (by kernel_rfl) (by repeat' constructor)) ⟨_, _, _, _, _, rfl, f8.base (by omega) (by omega), f12.base (by omega) (by omega), f3, f1, f2, by omega, hw⟩
  ·refine wl_allocg [_, _, _] Tryz.zeroValue31 (by rfl) ?_
   rintro g3 w3 f3 b3 i3 i3_1
   have s3 := b3.size
   replace hw := hw.trans (b3.mono hw.size)
   replace f1 := f1.u b3
   replace f2 := f2.u b3
   replace f5 := f5.u b3
   have s3 := hw.size
   have hf5 := f5
   refine wl_forkf (m := 615) (L := 1689) (C := 537) (n := 5) (k1 := 3) (k2 := 4) (fun fb fr V => ∃ (A8 : Option Addr) (c8 : Nat) (A9 : Option Addr), fr = [(8, .slice A8 X.length c8), (9, .slice A9 0 0)] ++ fb ∧ OwnKs V w2.heap.size V.heap.size A8 c8 X ∧ OwnKs V w2.heap.size V.heap.size A9 0 [] ∧ Blk V g3 31 [.slice none 0 0, .slice none 0 0, .slice none 0 0] ∧ Blk V g1 31 [.slice A I.length c, .slice B X.length d, .slice C Y.length e] ∧ Blk V g2 31 [.slice none 0 0, .slice none 0 0, .slice none 0 0] ∧ w2.heap.size ≤ V.heap.size ∧ Below w.heap.size w V) [0, 0, 2, 5, 0, 0, 32, 88, 136, 0, 1023] [0, 0, 2, 7, 0, 0, 32, 127, 255, 0, 1023] [3, 4, 7, 8, 10] [4, 3, 7, 8, 10] [7, 8, 10] [(.c, 4), (.l, 7), (.p, 8), (.l, 10)] [(.c, 3), (.l, 7), (.p, 8), (.l, 10)] [(.l, 7), (.p, 8), (.l, 10)] (by kernel_rfl) (by kernel_rfl) (by kernel_rfl) (by kernel_rfl) (by kernel_rfl) ?_ (fun hj => ?_) (fun hj => ?_) <;> dsimp only [inOrder, nthOp]
   ·clear f1 f2 f3 hw
    rintro fr V ⟨A8, c8, A9, rfl, f8, f9, f3, f1, f2, hg9, hw⟩
    first | refine rk_frame (by simp only [List.cons_append, List.nil_append, List.drop_succ_cons, List.drop_zero]; rfl) ?_ | refine wl_frame (by simp only [List.cons_append, List.nil_append, List.drop_succ_cons, List.drop_zero]; rfl) ?_
    refine wl_appKs0 rfl f9 rfl hC hw rfl (by omega) (by omega) ?_
    rintro A12 c12 w12 f12 b12
    have qf12 := f12.cap
    have s12 := b12.size
    replace hw := hw.trans (b12.mono hw.size)
    replace f2 := f2.u b12
    replace f1 := f1.u b12
    replace f3 := f3.u b12
    replace f9 := f9.u b12
    replace f8 := f8.u b12
    refine wl_p (fun _ => (o_buildg [_, _, _] Tryz.underlying31 Tryz.zeroValue31 (by rfl) (by rfl) rfl (by rfl) (by rfl) (fun _ => by kernel_rfl))) ?_
    exact wl_tof hj (Fr.le_of (by kernel_rfl) (by kernel_rfl) (by repeat' constructor)) ⟨_, _, _, _, _, rfl, f8.base (by omega) (by omega), f12.base (by omega) (by omega), f3, f1, f2, by omega, hw⟩
   ·refine wl_appKs0 rfl hf5 rfl hB hw rfl (by omega) (by omega) ?_
    rintro A8 c8 w8 f8 b8
    have qf8 := f8.cap
    have s8 := b8.size
    replace hw := hw.trans (b8.mono hw.size)
    replace hf5 := hf5.u b8
    replace f5 := f5.u b8
    replace f2 := f2.u b8
    replace f1 := f1.u b8
    replace f3 := f3.u b8
    refine wl_litKs0 (by rfl) rfl (by rfl) ?_
    rintro A9 w9 f9 b9
    have qf9 := f9.cap
    have s9 := b9.size
    replace hw := hw.trans (b9.mono hw.size)
    replace f3 := f3.u b9
    replace f1 := f1.u b9
    replace f2 := f2.u b9
    replace f5 := f5.u b9
    replace hf5 := hf5.u b9
    replace f8 := f8.u b9
    exact wl_tof hj (Fr.le_of (by kernel_rfl) (by kernel_rfl) (by repeat' constructor)) ⟨_, _, _, rfl, f8.base (by omega) (by omega), f9.base (by omega) (by omega), f3, f1, f2, by omega, hw⟩
   ·refine wl_litKs0 (by rfl) rfl (by rfl) ?_
    rintro A9 w9 f9 b9
    have qf9 := f9.cap
    have s9 := b9.size
    replace hw := hw.trans (b9.mono hw.size)
    replace hf5 := hf5.u b9
    replace f5 := f5.u b9
    replace f2 := f2.u b9
    replace f1 := f1.u b9
    replace f3 := f3.u b9
    refine wl_appKs0 rfl f5 rfl hB hw rfl (by omega) (by omega) ?_
    rintro A8 c8 w8 f8 b8
    have qf8 := f8.cap
    have s8 := b8.size
    replace hw := hw.trans (b8.mono hw.size)
    replace f3 := f3.u b8
    replace f1 := f1.u b8
    replace f2 := f2.u b8
    replace f5 := f5.u b8
    replace hf5 := hf5.u b8
    replace f9 := f9.u b8
    exact wl_tof hj (Fr.le_of (by kernel_rfl) (by kernel_rfl) (by repeat' constructor)) ⟨_, _, _, rfl, f8.base (by omega) (by omega), f9.base (by omega) (by omega), f3, f1, f2, by omega, hw⟩
 ·refine wl_litKs0 (by rfl) rfl (by rfl) ?_
  rintro A9 w9 f9 b9
  simp only [drew_size] at f9
  simp only [drew_size] at b9
  have qf9 := f9.cap
  have s9 := b9.size
  simp only [drew_size] at s9
  replace hw := hw.trans (b9.mono hw.size)
  replace f2 := f2.u b9
  replace f1 := f1.u b9
  refine wl_fork2j (m := 118) (L := 1689) (C := 537) (n := 6) (k1 := 0) (k2 := 9) _ [0, 0, 2, 5, 0, 0, 32, 88, 136, 0, 1023] [0, 0, 2, 7, 0, 0, 32, 127, 255, 0, 1023] [0] [9, 0, 3, 7, 8, 10] [10] [(.f 119 1689 537, 5)] [(.c, 0), (.c, 3), (.l, 7), (.p, 8), (.l, 10)] [(.l, 10)] (by kernel_rfl) (by kernel_rfl) (by kernel_rfl) (by kernel_rfl) (by kernel_rfl) hj (fun hj => ?_) (fun hj => ?_) <;> dsimp only [inOrder, nthOp]
  ·refine wl_litKs0 (by rfl) rfl (by rfl) ?_
   rintro A5 w5 f5 b5
   have qf5 := f5.cap
   have s5 := b5.size
   replace hw := hw.trans (b5.mono hw.size)
   replace f1 := f1.u b5
   replace f2 := f2.u b5
   replace f9 := f9.u b5
   refine wl_fork2j (m := 119) (L := 1689) (C := 537) (n := 5) (k1 := 3) (k2 := 9) _ [0, 0, 2, 5, 0, 0, 32, 88, 136, 0, 1023] [0, 0, 2, 7, 0, 0, 32, 127, 255, 0, 1023] [3] [9, 3, 7, 8, 10] [10] [(.f 127 1689 537, 4)] [(.c, 3), (.l, 7), (.p, 8), (.l, 10)] [(.l, 10)] (by kernel_rfl) (by kernel_rfl) (by kernel_rfl) (by kernel_rfl) (by kernel_rfl) hj (fun hj => ?_) (fun hj => ?_) <;> dsimp only [inOrder, nthOp]
   ·refine wl_appKs0 rfl f5 rfl hB hw rfl (by omega) (by omega) ?_
    rintro A8 c8 w8 f8 b8
    have qf8 := f8.cap
    have s8 := b8.size
    replace hw := hw.trans (b8.mono hw.size)
    replace f9 := f9.u b8
    replace f2 := f2.u b8
    replace f1 := f1.u b8
    replace f5 := f5.u b8
    refine wl_fork2j (m := 127) (L := 1689) (C := 537) (n := 4) (k1 := 7) (k2 := 9) _ [0, 0, 2, 5, 0, 0, 32, 88, 136, 0, 1023] [0, 0, 2, 7, 0, 0, 32, 127, 255, 0, 1023] [7, 8, 9, 10] [9, 7, 8, 10] [10] [(.p, 8), (.c, 9), (.l, 10)] [(.l, 7), (.p, 8), (.l, 10)] [(.l, 10)] (by kernel_rfl) (by kernel_rfl) (by kernel_rfl) (by kernel_rfl) (by kernel_rfl) hj (fun hj => ?_) (fun hj => ?_) <;> dsimp only [inOrder, nthOp]
    ·refine wl_appKs0 rfl f9 rfl hC hw rfl (by omega) (by omega) ?_
     rintro A12 c12 w12 f12 b12
     have qf12 := f12.cap
     have s12 := b12.size
     replace hw := hw.trans (b12.mono hw.size)
     replace f5 := f5.u b12
     replace f1 := f1.u b12
     replace f2 := f2.u b12
     replace f9 := f9.u b12
     replace f8 := f8.u b12
     refine wl_p (fun _ => (o_buildg [_, _, _] Tryz.underlying31 Tryz.zeroValue31 (by rfl) (by rfl) rfl (by rfl) (by rfl) (fun _ => by kernel_rfl))) ?_
     refine wl_allocg [_, _, _] Tryz.zeroValue31 (by rfl) ?_
     rintro g3 w3 f3 b3 i3 i3_1
     have s3 := b3.size
     replace hw := hw.trans (b3.mono hw.size)
     replace f8 := f8.u b3
     replace f9 := f9.u b3
     replace f2 := f2.u b3
     replace f1 := f1.u b3
     replace f5 := f5.u b3
     replace f12 := f12.u b3
     exact wl_tof hj (Fr.le_of (by kernel_rfl) (by kernel_rfl) (by repeat' constructor)) ⟨_, _, _, _, _, rfl, f8.base (by omega) (by omega), f12.base (by omega) (by omega), f3, f1, f2, by omega, hw⟩
    ·refine wl_allocg [_, _, _] Tryz.zeroValue31 (by rfl) ?_
     rintro g3 w3 f3 b3 i3 i3_1
     have s3 := b3.size
     replace hw := hw.trans (b3.mono hw.size)
     replace f5 := f5.u b3
     replace f1 := f1.u b3
     replace f2 := f2.u b3
     replace f9 := f9.u b3
     replace f8 := f8.u b3
     refine wl_appKs0 rfl f9 rfl hC hw rfl (by omega) (by omega) ?_
     rintro A12 c12 w12 f12 b12
     have qf12 := f12.cap
     have s12 := b12.size
     replace hw := hw.trans (b12.mono hw.size)
     replace f8 := f8.u b12
     replace f9 := f9.u b12
     replace f2 := f2.u b12
     replace f1 := f1.u b12
     replace f5 := f5.u b12
     replace f3 := f3.u b12
     refine wl_p (fun _ => (o_buildg [_, _, _] Tryz.underlying31 Tryz.zeroValue31 (by rfl) (by rfl) rfl (by rfl) (by rfl) (fun _ => by kernel_rfl))) ?_
     exact wl_tof hj (Fr.le_of (by kernel_rfl) (by kernel_rfl) (by repeat' constructor)) ⟨_, _, _, _, _, rfl, f8.base (by omega) (by omega), f12.base (by omega) (by omega), f3, f1, f2, by omega, hw⟩
   ·refine wl_allocg [_, _, _] Tryz.zeroValue31 (by rfl) ?_
    rintro g3 w3 f3 b3 i3 i3_1
    have s3 := b3.size
    replace hw := hw.trans (b3.mono hw.size)
    replace f9 := f9.u b3
    replace f2 := f2.u b3
    replace f1 := f1.u b3
    replace f5 := f5.u b3
    refine wl_appKs0 rfl f5 rfl hB hw rfl (by omega) (by omega) ?_
    rintro A8 c8 w8 f8 b8
    have qf8 := f8.cap
    have s8 := b8.size
    replace hw := hw.trans (b8.mono hw.size)
    replace f5 := f5.u b8
    replace f1 := f1.u b8
    replace f2 := f2.u b8
    replace f9 := f9.u b8
    replace f3 := f3.u b8
    refine wl_appKs0 rfl f9 rfl hC hw rfl (by omega) (by omega) ?_
    rintro A12 c12 w12 f12 b12
    have qf12 := f12.cap
    have s12 := b12.size
    replace hw := hw.trans (b12.mono hw.size)
    replace f3 := f3.u b12
    replace f9 := f9.u b12
    replace f2 := f2.u b12
    replace f1 := f1.u b12
    replace f5 := f5.u b12
    replace f8 := f8.u b12
    refine wl_p (fun _ => (o_buildg [_, _, _] Tryz.underlying31 Tryz.zeroValue31 (by rfl) (by rfl) rfl (by rfl) (by rfl) (fun _ => by kernel_rfl))) ?_
    exact wl_tof hj (Fr.le_of (by kernel_rfl) (by kernel_rfl) (by repeat' constructor)) ⟨_, _, _, _, _, rfl, f8.base (by omega) (by omega), f12.base (by omega) (by omega), f3, f1, f2, by omega, hw⟩
  ·refine wl_allocg [_, _, _] Tryz.zeroValue31 (by rfl) ?_
   rintro g3 w3 f3 b3 i3 i3_1
   have s3 := b3.size
   replace hw := hw.trans (b3.mono hw.size)
   replace f1 := f1.u b3
   replace f2 := f2.u b3
   replace f9 := f9.u b3
   refine wl_litKs0 (by rfl) rfl (by rfl) ?_
   rintro A5 w5 f5 b5
   have qf5 := f5.cap
   have s5 := b5.size
   replace hw := hw.trans (b5.mono hw.size)
   replace f9 := f9.u b5
   replace f2 := f2.u b5
   replace f1 := f1.u b5
   replace f3 := f3.u b5
   refine wl_appKs0 rfl f5 rfl hB hw rfl (by omega) (by omega) ?_
   rintro A8 c8 w8 f8 b8
   have qf8 := f8.cap
   have s8 := b8.size
   replace hw := hw.trans (b8.mono hw.size)
   replace f3 := f3.u b8
   replace f1 := f1.u b8
   replace f2 := f2.u b8
   replace f9 := f9.u b8
   replace f5 := f5.u b8
   refine wl_appKs0 rfl f9 rfl hC hw rfl (by omega) (by omega) ?_
   rintro A12 c12 w12 f12 b12
   have qf12 := f12.cap
   have s12 := b12.size
   replace hw := hw.trans (b12.mono hw.size)
   replace f5 := f5.u b12
   replace f9 := f9.u b12
   replace f2 := f2.u b12
   replace f1 := f1.u b12
   replace f3 := f3.u b12
   replace f8 := f8.u b12
   refine wl_p (fun _ => (o_buildg [_, _, _] Tryz.underlying31 Tryz.zeroValue31 (by rfl) (by rfl) rfl (by rfl) (by rfl) (fun _ => by kernel_rfl))) ?_
   exact wl_tof hj (Fr.le_of (by kernel_rfl) (by kernel_rfl) (by repeat' constructor)) ⟨_, _, _, _, _, rfl, f8.base (by omega) (by omega), f12.base (by omega) (by omega), f3, f1, f2, by omega, hw⟩
 ·refine wl_allocg [_, _, _] Tryz.zeroValue31 (by rfl) ?_
  rintro g3 w3 f3 b3 i3 i3_1
  simp only [drew_size] at b3
  simp only [drew_size] at i3
  have s3 := b3.size
  simp only [drew_size] at s3
  replace hw := hw.trans (b3.mono hw.size)
  replace f2 := f2.u b3
  replace f1 := f1.u b3
  have s3 := hw.size
  refine wl_forkf (m := 614) (L := 1689) (C := 537) (n := 6) (k1 := 0) (k2 := 4) (fun fb fr V => ∃ (A8 : Option Addr) (c8 : Nat) (A9 : Option Addr), fr = [(8, .slice A8 X.length c8), (9, .slice A9 0 0)] ++ fb ∧ OwnKs V w2.heap.size V.heap.size A8 c8 X ∧ OwnKs V w2.heap.size V.heap.size A9 0 [] ∧ Blk V g3 31 [.slice none 0 0, .slice none 0 0, .slice none 0 0] ∧ Blk V g1 31 [.slice A I.length c, .slice B X.length d, .slice C Y.length e] ∧ Blk V g2 31 [.slice none 0 0, .slice none 0 0, .slice none 0 0] ∧ w2.heap.size ≤ V.heap.size ∧ Below w.heap.size w V) [0, 0, 2, 5, 0, 0, 32, 88, 136, 0, 1023] [0, 0, 2, 7, 0, 0, 32, 127, 255, 0, 1023] [0] [4, 0, 3, 7, 8, 10] [7, 8, 10] [(.f 615 1689 537, 5)] [(.c, 0), (.c, 3), (.l, 7), (.p, 8), (.l, 10)] [(.l, 7), (.p, 8), (.l, 10)] (by kernel_rfl) (by kernel_rfl) (by kernel_rfl) (by kernel_rfl) (by kernel_rfl) ?_ (fun hj => ?_) (fun hj => ?_) <;> dsimp only [inOrder, nthOp]
  ·clear f1 f2 f3 hw
   rintro fr V ⟨A8, c8, A9, rfl, f8, f9, f3, f1, f2, hg9, hw⟩
   first | refine rk_frame (by simp only [List.cons_append, List.nil_append, List.drop_succ_cons, List.drop_zero]; rfl) ?_ | refine wl_frame (by simp only [List.cons_append, List.nil_append, List.drop_succ_cons, List.drop_zero]; rfl) ?_
   refine wl_appKs0 rfl f9 rfl hC hw rfl (by omega) (by omega) ?_
   rintro A12 c12 w12 f12 b12
   have qf12 := f12.cap
   have s12 := b12.size
   replace hw := hw.trans (b12.mono hw.size)
   replace f2 := f2.u b12
   replace f1 := f1.u b12
   replace f3 := f3.u b12
   replace f9 := f9.u b12
   replace f8 := f8.u b12
   refine wl_p (fun _ => (o_buildg [_, _, _] Tryz.underlying31 Tryz.zeroValue31 (by rfl) (by rfl) rfl (by rfl) (by rfl) (fun _ => by kernel_rfl))) ?_
   exact wl_tof hj (Fr.le_of (by kernel_rfl) (by kernel_rfl) (by repeat' constructor)) ⟨_, _, _, _, _, rfl, f8.base (by omega) (by omega), f12.base (by omega) (by omega), f3, f1, f2, by omega, hw⟩
  ·refine wl_litKs0 (by rfl) rfl (by rfl) ?_
   rintro A5 w5 f5 b5
   have qf5 := f5.cap
   have s5 := b5.size
   replace hw := hw.trans (b5.mono hw.size)
   replace f1 := f1.u b5
   replace f2 := f2.u b5
   replace f3 := f3.u b5
   refine wl_fork2j (m := 615) (L := 1689) (C := 537) (n := 5) (k1 := 3) (k2 := 4) _ [0, 0, 2, 5, 0, 0, 32, 88, 136, 0, 1023] [0, 0, 2, 7, 0, 0, 32, 127, 255, 0, 1023] [3, 4, 7, 8, 10] [4, 3, 7, 8, 10] [7, 8, 10] [(.c, 4), (.l, 7), (.p, 8), (.l, 10)] [(.c, 3), (.l, 7), (.p, 8), (.l, 10)] [(.l, 7), (.p, 8), (.l, 10)] (by kernel_rfl) (by kernel_rfl) (by kernel_rfl) (by kernel_rfl) (by kernel_rfl) hj (fun hj => ?_) (fun hj => ?_) <;> dsimp only [inOrder, nthOp]
   ·refine wl_appKs0 rfl f5 rfl hB hw rfl (by omega) (by omega) ?_
    rintro A8 c8 w8 f8 b8
    have qf8 := f8.cap
    have s8 := b8.size
    replace hw := hw.trans (b8.mono hw.size)
    replace f3 := f3.u b8
    replace f2 := f2.u b8
    replace f1 := f1.u b8
    replace f5 := f5.u b8
    refine wl_litKs0 (by rfl) rfl (by rfl) ?_
    rintro A9 w9 f9 b9
    have qf9 := f9.cap
    have s9 := b9.size
    replace hw := hw.trans (b9.mono hw.size)
    replace f5 := f5.u b9
    replace f1 := f1.u b9
    replace f2 := f2.u b9
    replace f3 := f3.u b9
    replace f8 := f8.u b9
    exact wl_tof hj (Fr.le_of (by kernel_rfl) (by kernel_rfl) (by repeat' constructor)) ⟨_, _, _, rfl, f8.base (by omega) (by omega), f9.base (by omega) (by omega), f3, f1, f2, by omega, hw⟩
   ·refine wl_litKs0 (by rfl) rfl (by rfl) ?_
    rintro A9 w9 f9 b9
    have qf9 := f9.cap
    have s9 := b9.size
    replace hw := hw.trans (b9.mono hw.size)
    replace f3 := f3.u b9
    replace f2 := f2.u b9
    replace f1 := f1.u b9
    replace f5 := f5.u b9
    refine wl_appKs0 rfl f5 rfl hB hw rfl (by omega) (by omega) ?_
    rintro A8 c8 w8 f8 b8
    have qf8 := f8.cap
    have s8 := b8.size
    replace hw := hw.trans (b8.mono hw.size)
    replace f5 := f5.u b8
    replace f1 := f1.u b8
    replace f2 := f2.u b8
    replace f3 := f3.u b8
    replace f9 := f9.u b8
    exact wl_tof hj (Fr.le_of (by kernel_rfl) (by kernel_rfl) (by repeat' constructor)) ⟨_, _, _, rfl, f8.base (by omega) (by omega), f9.base (by omega) (by omega), f3, f1, f2, by omega, hw⟩
  ·refine wl_litKs0 (by rfl) rfl (by rfl) ?_
   rintro A9 w9 f9 b9
   have qf9 := f9.cap
   have s9 := b9.size
   replace hw := hw.trans (b9.mono hw.size)
   replace f1 := f1.u b9
   replace f2 := f2.u b9
   replace f3 := f3.u b9
   refine wl_litKs0 (by rfl) rfl (by rfl) ?_
   rintro A5 w5 f5 b5
   have qf5 := f5.cap
   have s5 := b5.size
   replace hw := hw.trans (b5.mono hw.size)
   replace f3 := f3.u b5
   replace f2 := f2.u b5
   replace f1 := f1.u b5
   replace f9 := f9.u b5
   refine wl_appKs0 rfl f5 rfl hB hw rfl (by omega) (by omega) ?_
   rintro A8 c8 w8 f8 b8
   have qf8 := f8.cap
   have s8 := b8.size
   replace hw := hw.trans (b8.mono hw.size)
   replace f9 := f9.u b8
   replace f1 := f1.u b8
   replace f2 := f2.u b8
   replace f3 := f3.u b8
   replace f5 := f5.u b8
   exact wl_tof hj (Fr.le_of (by kernel_rfl) (by kernel_rfl) (by repeat' constructor)) ⟨_, _, _, rfl, f8.base (by omega) (by omega), f9.base (by omega) (by omega), f3, f1, f2, by omega, hw⟩
end Go.Proofs.YtahkeoegbjopfaaGreat
