/-
  Walks of the disk's methods that go through all that is cached, or all sectors.
-/
import Derived.Test.YtklijaahbahcoaaDoorMg3
import Derived.Lib.AppendStr
import Derived.Lib.TrailingZeros
import Derived.Lib.BitFns
import Derived.Lib.SlBytesConst
import Derived.Laws.Externs
namespace Go.Proofs.YtklijaahbahcoaaDoor
set_option maxRecDepth 100000
open Go.RowKit
theorem C_dSize {lo hi g : Nat} {S : List Sec} {C : List (Option Sec)} (w : World) (hd : DkAt w lo hi g S C) :
    CallsR Tryd.prog 28 [.pointer (some ⟨g, 0, none⟩)] w fun v w' => v = .int .i64 (S.length : Int) ∧ w' = w := by
  refine callsR Tryd.func28 rfl rfl (by kernel_rfl) rfl ?_
  refine rk_seq ?_
  refine rk_region ?_
  refine wl_p (fun _ => o_assign rfl) ?_
  refine wl_nil ?_
  refine rk_seq ?_
  refine rk_seq ?_
  refine rk_region ?_
  refine wl_p (fun _ => o_move rfl) ?_
  refine wl_call rfl (C_valid _ hd) ?_
  rintro v4 w4 ⟨rfl, rfl⟩
  refine wl_p (fun _ => o_not rfl) ?_
  refine wl_nil ?_
  refine rk_false rfl ?_
  refine rk_skip ?_
  refine rk_seq ?_
  refine rk_region ?_
  refine wl_p (fun _ => o_move rfl) ?_
  refine wl_p (fun _ => o_nil rfl) ?_
  refine wl_p (fun _ => o_faddr (s := 70) (i := 1) (off := 1) Tryd.underlying70 rfl Tryd.sizeOf61 rfl rfl rfl) ?_
  obtain ⟨A, c, b, f, fs, fm, h4, h5, h6⟩ := hd.ex
  refine wl_r (o_loadbg Tryd.isAgg61 rfl f (by rfl)) ?_
  refine wl_p (fun _ => o_len (t := 61) Tryd.underlying61 rfl) ?_
  refine wl_p (fun _ => o_assign rfl) ?_
  refine wl_nil ?_
  refine ret1 rfl rfl ?_
  exact ⟨rfl, rfl⟩
theorem C_dSizeNil (w : World) :
    CallsR Tryd.prog 28 [.pointer none] w fun v w' => v = .int .i64 0 ∧ w' = w := by
  refine callsR Tryd.func28 rfl rfl (by kernel_rfl) rfl ?_
  refine rk_seq ?_
  refine rk_region ?_
  refine wl_p (fun _ => o_assign rfl) ?_
  refine wl_nil ?_
  refine rk_seq ?_
  refine rk_seq ?_
  refine rk_region ?_
  refine wl_p (fun _ => o_move rfl) ?_
  refine wl_call rfl (C_validNil _) ?_
  rintro v4 w4 ⟨rfl, rfl⟩
  refine wl_p (fun _ => o_not rfl) ?_
  refine wl_nil ?_
  refine rk_true rfl ?_
  refine rk_seq ?_
  refine rk_region ?_
  refine wl_p (fun _ => o_assign rfl) ?_
  refine wl_nil ?_
  refine ret1 rfl rfl ?_
  exact ⟨rfl, rfl⟩
theorem C_dFlush {lo hi g : Nat} {S S0 : List Sec} {C C0 : List (Option Sec)} (w : World) (hd : DkAt w lo hi g S C) (hS0 : cur S C = S0) (hC0 : List.replicate S.length none = C0) :
    CallsR Tryd.prog 39 [.pointer (some ⟨g, 0, none⟩)] w fun v w' => v = .int .i64 0 ∧ DkAt w' lo hi g S0 C0 ∧ Chg lo hi w w' := by
  subst hS0; subst hC0
  refine callsR Tryd.func39 rfl rfl (by kernel_rfl) rfl ?_
  have hcg : Chg lo hi w w := Chg.refl
  have hhi := hd.hi
  refine rk_seq ?_
  refine rk_region ?_
  refine wl_p (fun _ => o_assign rfl) ?_
  refine wl_nil ?_
  refine rk_seq ?_
  refine rk_seq ?_
  refine rk_region ?_
  refine wl_p (fun _ => o_move rfl) ?_
  refine wl_call rfl (C_valid _ hd) ?_
  rintro v6 w6 ⟨rfl, rfl⟩
  refine wl_p (fun _ => o_not rfl) ?_
  refine wl_nil ?_
  refine rk_false rfl ?_
  refine rk_skip ?_
  refine rk_seq ?_
  refine rk_seq ?_
  refine rk_region ?_
  refine wl_p (fun _ => o_move rfl) ?_
  refine wl_call rfl (C_dCached _ hd (by rfl)) ?_
  rintro v9 w9 ⟨A9, ⟨c9, ⟨rfl, ⟨f9, b9⟩⟩⟩⟩
  have qf9 := f9.cap
  have s9 := b9.size
  replace hcg := hcg.thenB b9
  replace hd := hd.u b9
  refine wl_p (fun _ => o_len (t := 35) Tryd.underlying35 rfl) ?_
  refine wl_p (fun _ => o_move rfl) ?_
  refine wl_nil ?_
  refine rk_block ?_
  obtain ⟨A, c, b, f, fs, fm, h4, h5, h6⟩ := hd.ex
  have hg1 := hd.g1
  have hg2 := hd.g2
  have hle := hd.len
  have hn1 := hd.n1
  have hn2 := hd.n2
  have hcl := cnt_le C
  have hIl := ixz_len C
  have hsz0 := hcg.size
  clear hd
  refine rk_joinf (fun fb fr W => fr = [] ++ fb.drop 1 ∧ Blk W g 70 [.pointer (some ⟨g, 0, none⟩), .slice A S.length c, .map (some b)] ∧ OwnSec W lo hi A c (cur S C) ∧ MapS W b C ∧ Chg lo hi w6 W) ?_ (fun ks hj => ?_)
  rotate_left
  · refine rk_loopf (fun fb m fr W => ∃ (j : Nat) (v : Int) (S' : List Sec), fr = [(11, .int .i64 v)] ++ fb.drop 1 ∧ v = j ∧ j ≤ cnt C ∧ m = cnt C - j ∧ S' = crash S C (List.replicate j true) ∧ Blk W g 70 [.pointer (some ⟨g, 0, none⟩), .slice A S'.length c, .map (some b)] ∧ OwnSec W lo hi A c S' ∧ MapS W b C ∧ OwnZ W w6.heap.size w9.heap.size A9 c9 (ixz C) ∧ Chg lo hi w6 W) (n := cnt C) (Fr.le_of (by kernel_rfl) (by kernel_rfl) (by repeat' constructor)) ⟨0, _, S, rfl, rfl, by omega, rfl, by rw [List.replicate_zero, crash_nil], f, fs, fm, f9, hcg⟩ ?_
    clear f fs fm f9 hcg
    rintro m fr W ⟨j, v, S', rfl, rfl, hj', rfl, hS', f, fs, fm, f9, hcg⟩
    have hSl : S'.length = S.length := by rw [hS', crash_len]
    first | refine rk_frame (by simp only [List.cons_append, List.nil_append, List.drop_succ_cons, List.drop_zero]; rfl) ?_ | refine wl_frame (by simp only [List.cons_append, List.nil_append, List.drop_succ_cons, List.drop_zero]; rfl) ?_
    refine rk_seq ?_
    refine rk_region ?_
    refine wl_p (fun _ => o_lt rfl rfl) ?_
    refine wl_nil ?_
    refine rk_seq ?_
    refine rk_if rfl (fun h12 => ?_) (fun h12 => ?_)
    · have hjc : j < (cix C).length := by rw [cix_len]; omega
      have hji : j < (ixz C).length := by omega
      obtain ⟨i, hci⟩ : ∃ i, (cix C)[j] = i := ⟨_, rfl⟩
      have hIj : (ixz C)[j] = (i : Int) := by rw [← hci]; simp [ixz]
      have hiS : i < S'.length := by rw [hSl, ← hle, ← hci]; exact cix_lt C hjc
      obtain ⟨r, hr⟩ : ∃ r, cAt C (i : Int) = r := ⟨_, rfl⟩
      have hwf : (Lit.int .i64 (i : Int)).wf = true := nat_wf (by omega)
      refine rk_skip ?_
      refine rk_seq ?_
      refine rk_block ?_
      refine rk_seq ?_
      refine rk_region ?_
      refine wl_p (fun _ => (o_iaddrA1 (j) Tryd.underlying35 Tryd.sizeOf3 rfl rfl rfl (Reads.some_ f9.to_Reads (by decide) (by omega)) (by omega))) ?_
      refine wl_r (o_loadZ Tryd.isAgg3 rfl f9.to_Reads (by omega)) ?_
      refine wl_p (fun _ => o_assign rfl) ?_
      refine wl_nil ?_
      refine rk_draw (id := 6) (none) [0, 1, 2, 4, 0, 0, 32, 64, 128, 0, 768, 2047, 4095] [0, 1, 3, 7, 0, 0, 32, 96, 224, 0, 992, 2047, 4095] 4096 0 [(.p, 0), (.p, 1), (.p, 2), (.r, 3), (.p, 4), (.p, 5), (.p, 6), (.p, 7), (.r, 8), (.p, 9), (.r, 10), (.p, 11), (.l, 12)] (by kernel_rfl) (by kernel_rfl) (by kernel_rfl) (by kernel_rfl) (by kernel_rfl) ?_
      replace hcg := hcg.trans Chg.drew
      replace f9 := f9.d
      replace fm := fm.d
      replace fs := fs.d
      replace f := f.d
      refine wl_p (fun _ => o_move rfl) ?_
      refine wl_p (fun _ => o_nil rfl) ?_
      refine wl_p (fun _ => o_faddr (s := 70) (i := 1) (off := 1) Tryd.underlying70 rfl Tryd.sizeOf61 rfl rfl rfl) ?_
      refine wl_r (o_loadbg Tryd.isAgg61 rfl f (by rfl)) ?_
      refine wl_p (fun _ => o_move rfl) ?_
      refine wl_p (fun _ => o_move rfl) ?_
      refine wl_p (fun _ => o_nil rfl) ?_
      refine wl_p (fun _ => o_faddr (s := 70) (i := 2) (off := 2) Tryd.underlying70 rfl Tryd.sizeOf68 rfl rfl rfl) ?_
      refine wl_r (o_loadbg Tryd.isAgg68 rfl f (by rfl)) ?_
      refine wl_p (fun _ => o_move rfl) ?_
      rw [hIj]
      refine wl_r (o_lookS1 Tryd.underlying68 rfl rfl fm hr hwf) ?_
      refine wl_p (fun _ => (o_iaddrA (i) Tryd.underlying61 Tryd.sizeOf67 rfl rfl rfl (fs.some_ (by omega)) (by omega))) ?_
      refine wl_stSec rfl fs rfl (by omega) ?_
      rintro w f_1 g_1 b_1 e
      simp only [drew_size] at e
      have qf_1 := f_1.cap
      have s := g_1.size
      simp only [drew_size] at s
      replace hcg := hcg.trans ((Chg.of_g g_1.g f_1.rng).wide (by omega) (by omega))
      replace f := f.y g_1 (by decide)
      replace fm := fm.y g_1 (by decide)
      replace f9 := f9.y g_1 (by decide)
      clear fs
      refine wl_nild ?_
      refine rk_blk ?_
      refine rk_region ?_
      refine wl_p (fun _ => o_add rfl rfl (by omega) (by omega)) ?_
      refine wl_p (fun _ => o_move rfl) ?_
      refine wl_nil ?_
      have e : S'.set i (r.getD z256) = crash S C (List.replicate (j + 1) true) := by
        rw [crash_true hle hjc, ← hS', hci, hr]
      have e2 : (S'.set i (r.getD z256)).length = S'.length := List.length_set ..
      exact rk_againf (Fr.le_of (by kernel_rfl) (by kernel_rfl) (by repeat' constructor)) ⟨j + 1, (j : Int) + 1, S'.set i (r.getD z256), rfl, by omega, by omega, rfl, e, by rw [e2]; exact f, f_1, fm, f9, hcg⟩ (by omega)
    · refine rk_exit rfl ?_
      obtain rfl : j = cnt C := by omega
      rw [crash_all S C _ (Nat.le_refl _)] at hS'
      subst hS'
      rw [hSl] at f
      exact rk_tof hj (Fr.le_of (by kernel_rfl) (by kernel_rfl) (by repeat' constructor)) ⟨rfl, f, fs, fm, hcg⟩
  clear f fs fm f9 hcg
  rintro fr W ⟨rfl, f, fs, fm, hcg⟩
  first | refine rk_frame (by simp only [List.cons_append, List.nil_append, List.drop_succ_cons, List.drop_zero]; rfl) ?_ | refine wl_frame (by simp only [List.cons_append, List.nil_append, List.drop_succ_cons, List.drop_zero]; rfl) ?_
  refine rk_seq ?_
  refine rk_region ?_
  refine wl_p (fun _ => o_move rfl) ?_
  refine wl_p (fun _ => o_nil rfl) ?_
  refine wl_p (fun _ => o_faddr (s := 70) (i := 2) (off := 2) Tryd.underlying70 rfl Tryd.sizeOf68 rfl rfl rfl) ?_
  refine wl_r (o_loadbg Tryd.isAgg68 rfl f (by rfl)) ?_
  refine wl_clearM Tryd.underlying68 rfl fm ?_
  rintro w f_1 g_1 e
  have s := g_1.size
  replace hcg := hcg.trans (Chg.of_g1 g_1.g (by omega) (by omega))
  replace fs := fs.m g_1
  replace f := f.k g_1.g (ap_some (by omega))
  clear fm
  refine wl_nil ?_
  refine rk_seq ?_
  refine rk_region ?_
  refine wl_p (fun _ => o_assign rfl) ?_
  refine wl_nil ?_
  refine ret1 rfl rfl ?_
  rw [hle] at f_1
  exact ⟨rfl, ⟨⟨A, c, b, by rw [cur_len]; exact f, fs, f_1, h4, h5, h6⟩, hg1, hg2, by have := hcg.size; omega, by rw [List.length_replicate, cur_len], by rw [cur_len]; exact hn1, by rw [cur_len]; exact hn2⟩, hcg⟩
theorem C_dFlushNil (w : World) :
    CallsR Tryd.prog 39 [.pointer none] w fun v w' => v = .int .i64 1 ∧ Below w.heap.size w w' := by
  refine callsR Tryd.func39 rfl rfl (by kernel_rfl) rfl ?_
  have hw := Below.refl w.heap.size w
  refine rk_seq ?_
  refine rk_region ?_
  refine wl_p (fun _ => o_assign rfl) ?_
  refine wl_nil ?_
  refine rk_seq ?_
  refine rk_seq ?_
  refine rk_region ?_
  refine wl_p (fun _ => o_move rfl) ?_
  refine wl_call rfl (C_validNil _) ?_
  rintro v6 w6 ⟨rfl, rfl⟩
  refine wl_p (fun _ => o_not rfl) ?_
  refine wl_nil ?_
  refine rk_true rfl ?_
  refine rk_seq ?_
  refine rk_region ?_
  refine wl_p (fun _ => o_assign rfl) ?_
  refine wl_nil ?_
  refine ret1 rfl rfl ?_
  exact ⟨rfl, hw⟩
theorem C_dCrash {lo hi lo2 hi2 g n cp : Nat} {S S0 : List Sec} {C C0 : List (Option Sec)} {K : Option Addr} {kp : List Bool} (w : World) (hd : DkAt w lo hi g S C) (hk : RdBo w lo2 hi2 K kp) (hS0 : crash S C kp = S0) (hC0 : List.replicate S.length none = C0) (ha : hi2 ≤ lo ∨ hi ≤ lo2) (hn : n = kp.length) (hm : n ≤ 1000000) :
    CallsR Tryd.prog 23 [.pointer (some ⟨g, 0, none⟩), .slice K n cp] w fun v w' => v = .int .i64 0 ∧ DkAt w' lo hi g S0 C0 ∧ Chg lo hi w w' := by
  subst hn; subst hS0; subst hC0
  refine callsR Tryd.func23 rfl rfl (by kernel_rfl) rfl ?_
  have hcg : Chg lo hi w w := Chg.refl
  have hhi := hd.hi
  refine rk_seq ?_
  refine rk_region ?_
  refine wl_p (fun _ => o_assign rfl) ?_
  refine wl_nil ?_
  refine rk_seq ?_
  refine rk_seq ?_
  refine rk_region ?_
  refine wl_p (fun _ => o_move rfl) ?_
  refine wl_call rfl (C_valid _ hd) ?_
  rintro v8 w8 ⟨rfl, rfl⟩
  refine wl_p (fun _ => o_not rfl) ?_
  refine wl_nil ?_
  refine rk_false rfl ?_
  refine rk_skip ?_
  refine rk_seq ?_
  refine rk_seq ?_
  refine rk_region ?_
  refine wl_p (fun _ => o_move rfl) ?_
  refine wl_call rfl (C_dCached _ hd (by rfl)) ?_
  rintro v11 w11 ⟨A11, ⟨c11, ⟨rfl, ⟨f11, b11⟩⟩⟩⟩
  have qf11 := f11.cap
  have s11 := b11.size
  replace hcg := hcg.thenB b11
  replace hk := hk.u b11
  replace hd := hd.u b11
  refine wl_p (fun _ => o_len (t := 35) Tryd.underlying35 rfl) ?_
  refine wl_p (fun _ => o_move rfl) ?_
  refine wl_nil ?_
  refine rk_block ?_
  obtain ⟨A, c, b, f, fs, fm, h4, h5, h6⟩ := hd.ex
  have hg1 := hd.g1
  have hg2 := hd.g2
  have hle := hd.len
  have hn1 := hd.n1
  have hn2 := hd.n2
  have hcl := cnt_le C
  have hIl := ixz_len C
  have hsz0 := hcg.size
  clear hd
  refine rk_joinf (fun fb fr W => fr = [] ++ fb.drop 1 ∧ Blk W g 70 [.pointer (some ⟨g, 0, none⟩), .slice A S.length c, .map (some b)] ∧ OwnSec W lo hi A c (crash S C kp) ∧ MapS W b C ∧ Chg lo hi w8 W) ?_ (fun ks hj => ?_)
  rotate_left
  · refine rk_loopf (fun fb m fr W => ∃ (j : Nat) (v : Int) (S' : List Sec), fr = [(13, .int .i64 v)] ++ fb.drop 1 ∧ v = j ∧ j ≤ cnt C ∧ m = cnt C - j ∧ S' = crash S C (kp.take j) ∧ Blk W g 70 [.pointer (some ⟨g, 0, none⟩), .slice A S'.length c, .map (some b)] ∧ OwnSec W lo hi A c S' ∧ MapS W b C ∧ OwnZ W w8.heap.size w11.heap.size A11 c11 (ixz C) ∧ RdBo W lo2 hi2 K kp ∧ Chg lo hi w8 W) (n := cnt C) (Fr.le_of (by kernel_rfl) (by kernel_rfl) (by repeat' constructor)) ⟨0, _, S, rfl, rfl, by omega, rfl, by rw [List.take_zero, crash_nil], f, fs, fm, f11, hk, hcg⟩ ?_
    clear f fs fm f11 hcg hk
    rintro m fr W ⟨j, v, S', rfl, rfl, hj', rfl, hS', f, fs, fm, f11, hk, hcg⟩
    have hSl : S'.length = S.length := by rw [hS', crash_len]
    first | refine rk_frame (by simp only [List.cons_append, List.nil_append, List.drop_succ_cons, List.drop_zero]; rfl) ?_ | refine wl_frame (by simp only [List.cons_append, List.nil_append, List.drop_succ_cons, List.drop_zero]; rfl) ?_
    refine rk_seq ?_
    refine rk_region ?_
    refine wl_p (fun _ => o_lt rfl rfl) ?_
    refine wl_nil ?_
    refine rk_seq ?_
    refine rk_if rfl (fun h14 => ?_) (fun h14 => ?_)
    · have hjc : j < (cix C).length := by rw [cix_len]; omega
      have hji : j < (ixz C).length := by omega
      obtain ⟨i, hci⟩ : ∃ i, (cix C)[j] = i := ⟨_, rfl⟩
      have hIj : (ixz C)[j] = (i : Int) := by rw [← hci]; simp [ixz]
      have hiS : i < S'.length := by rw [hSl, ← hle, ← hci]; exact cix_lt C hjc
      obtain ⟨r, hr⟩ : ∃ r, cAt C (i : Int) = r := ⟨_, rfl⟩
      have hwf : (Lit.int .i64 (i : Int)).wf = true := nat_wf (by omega)
      by_cases hjk : j < kp.length
      · have hck := crash_keep (kp := kp) hle hjc hjk
        rw [← hS', hci, hr] at hck
        cases hkj : kp[j] with
        | true =>
          rw [hkj, if_pos rfl] at hck
          refine rk_skip ?_
          refine rk_seq ?_
          refine rk_block ?_
          refine rk_seq ?_
          refine rk_region ?_
          refine wl_p (fun _ => o_move rfl) ?_
          refine wl_p (fun _ => (o_iaddrA1 (j) Tryd.underlying35 Tryd.sizeOf3 rfl rfl rfl (Reads.some_ f11.to_Reads (by decide) (by omega)) (by omega))) ?_
          refine wl_r (o_loadZ Tryd.isAgg3 rfl f11.to_Reads (by omega)) ?_
          refine wl_p (fun _ => o_assign rfl) ?_
          refine wl_p (fun _ => o_assign rfl) ?_
          refine wl_nil ?_
          refine rk_seq ?_
          refine rk_region ?_
          refine wl_p (fun _ => o_move rfl) ?_
          refine wl_p (fun _ => o_move rfl) ?_
          refine wl_p (fun _ => o_len (t := 54) Tryd.underlying54 rfl) ?_
          refine wl_p (fun _ => o_lt rfl rfl) ?_
          refine wl_p (fun _ => o_move rfl) ?_
          refine wl_know 22 true rfl (decide_eq_true (by omega)) ?_
          refine wl_p (fun _ => o_move rfl) ?_
          refine wl_p (fun _ => o_move rfl) ?_
          refine wl_p (fun _ => (o_iaddrA1 (j) Tryd.underlying54 Tryd.sizeOf4 rfl rfl rfl (hk.some_ (by omega)) (by omega))) ?_
          refine wl_r (o_ldBo Tryd.isAgg4 rfl hk (by omega)) ?_
          refine wl_p (fun _ => o_pick_t rfl rfl) ?_
          refine wl_nil ?_
          rw [hkj]
          refine rk_true rfl ?_
          refine rk_draw (id := 7) (none) [0, 1, 2, 4, 0, 0, 32, 64, 128, 0, 768, 2047, 4095] [0, 1, 3, 7, 0, 0, 32, 96, 224, 0, 992, 2047, 4095] 4096 0 [(.p, 0), (.p, 1), (.p, 2), (.r, 3), (.p, 4), (.p, 5), (.p, 6), (.p, 7), (.r, 8), (.p, 9), (.r, 10), (.p, 11), (.l, 12)] (by kernel_rfl) (by kernel_rfl) (by kernel_rfl) (by kernel_rfl) (by kernel_rfl) ?_
          replace hcg := hcg.trans Chg.drew
          replace hk := hk.d
          replace f11 := f11.d
          replace fm := fm.d
          replace fs := fs.d
          replace f := f.d
          refine wl_p (fun _ => o_move rfl) ?_
          refine wl_p (fun _ => o_nil rfl) ?_
          refine wl_p (fun _ => o_faddr (s := 70) (i := 1) (off := 1) Tryd.underlying70 rfl Tryd.sizeOf61 rfl rfl rfl) ?_
          refine wl_r (o_loadbg Tryd.isAgg61 rfl f (by rfl)) ?_
          refine wl_p (fun _ => o_move rfl) ?_
          refine wl_p (fun _ => o_move rfl) ?_
          refine wl_p (fun _ => o_nil rfl) ?_
          refine wl_p (fun _ => o_faddr (s := 70) (i := 2) (off := 2) Tryd.underlying70 rfl Tryd.sizeOf68 rfl rfl rfl) ?_
          refine wl_r (o_loadbg Tryd.isAgg68 rfl f (by rfl)) ?_
          refine wl_p (fun _ => o_move rfl) ?_
          rw [hIj]
          refine wl_r (o_lookS1 Tryd.underlying68 rfl rfl fm hr hwf) ?_
          refine wl_p (fun _ => (o_iaddrA (i) Tryd.underlying61 Tryd.sizeOf67 rfl rfl rfl (fs.some_ (by omega)) (by omega))) ?_
          refine wl_stSec rfl fs rfl (by omega) ?_
          rintro w f_1 g_1 b_1 e
          simp only [drew_size] at e
          have qf_1 := f_1.cap
          have s := g_1.size
          simp only [drew_size] at s
          replace hcg := hcg.trans ((Chg.of_g g_1.g f_1.rng).wide (by omega) (by omega))
          replace f := f.y g_1 (by decide)
          replace fm := fm.y g_1 (by decide)
          replace f11 := f11.y g_1 (by decide)
          replace hk := hk.k g_1.g (f_1.ap (by omega))
          clear fs
          refine wl_nild ?_
          refine rk_blk ?_
          refine rk_region ?_
          refine wl_p (fun _ => o_add rfl rfl (by omega) (by omega)) ?_
          refine wl_p (fun _ => o_move rfl) ?_
          refine wl_nil ?_
          have e2 : (S'.set i (r.getD z256)).length = S'.length := List.length_set ..
          exact rk_againf (Fr.le_of (by kernel_rfl) (by kernel_rfl) (by repeat' constructor)) ⟨j + 1, (j : Int) + 1, S'.set i (r.getD z256), rfl, by omega, by omega, rfl, hck.symm, by rw [e2]; exact f, f_1, fm, f11, hk, hcg⟩ (by omega)
        | false =>
          rw [hkj, if_neg (by simp)] at hck
          refine rk_skip ?_
          refine rk_seq ?_
          refine rk_block ?_
          refine rk_seq ?_
          refine rk_region ?_
          refine wl_p (fun _ => o_move rfl) ?_
          refine wl_p (fun _ => (o_iaddrA1 (j) Tryd.underlying35 Tryd.sizeOf3 rfl rfl rfl (Reads.some_ f11.to_Reads (by decide) (by omega)) (by omega))) ?_
          refine wl_r (o_loadZ Tryd.isAgg3 rfl f11.to_Reads (by omega)) ?_
          refine wl_p (fun _ => o_assign rfl) ?_
          refine wl_p (fun _ => o_assign rfl) ?_
          refine wl_nil ?_
          refine rk_seq ?_
          refine rk_region ?_
          refine wl_p (fun _ => o_move rfl) ?_
          refine wl_p (fun _ => o_move rfl) ?_
          refine wl_p (fun _ => o_len (t := 54) Tryd.underlying54 rfl) ?_
          refine wl_p (fun _ => o_lt rfl rfl) ?_
          refine wl_p (fun _ => o_move rfl) ?_
          refine wl_know 22 true rfl (decide_eq_true (by omega)) ?_
          refine wl_p (fun _ => o_move rfl) ?_
          refine wl_p (fun _ => o_move rfl) ?_
          refine wl_p (fun _ => (o_iaddrA1 (j) Tryd.underlying54 Tryd.sizeOf4 rfl rfl rfl (hk.some_ (by omega)) (by omega))) ?_
          refine wl_r (o_ldBo Tryd.isAgg4 rfl hk (by omega)) ?_
          refine wl_p (fun _ => o_pick_t rfl rfl) ?_
          refine wl_nil ?_
          rw [hkj]
          refine rk_false rfl ?_
          refine rk_skip ?_
          refine rk_blk ?_
          refine rk_region ?_
          refine wl_p (fun _ => o_add rfl rfl (by omega) (by omega)) ?_
          refine wl_p (fun _ => o_move rfl) ?_
          refine wl_nil ?_
          exact rk_againf (Fr.le_of (by kernel_rfl) (by kernel_rfl) (by repeat' constructor)) ⟨j + 1, (j : Int) + 1, S', rfl, by omega, by omega, rfl, hck.symm, f, fs, fm, f11, hk, hcg⟩ (by omega)
      · have hck : crash S C (kp.take (j + 1)) = S' := by rw [hS', List.take_of_length_le (by omega), List.take_of_length_le (by omega)]
        refine rk_skip ?_
        refine rk_seq ?_
        refine rk_block ?_
        refine rk_seq ?_
        refine rk_region ?_
        refine wl_p (fun _ => o_move rfl) ?_
        refine wl_p (fun _ => (o_iaddrA1 (j) Tryd.underlying35 Tryd.sizeOf3 rfl rfl rfl (Reads.some_ f11.to_Reads (by decide) (by omega)) (by omega))) ?_
        refine wl_r (o_loadZ Tryd.isAgg3 rfl f11.to_Reads (by omega)) ?_
        refine wl_p (fun _ => o_assign rfl) ?_
        refine wl_p (fun _ => o_assign rfl) ?_
        refine wl_nil ?_
        refine rk_seq ?_
        refine rk_region ?_
        refine wl_p (fun _ => o_move rfl) ?_
        refine wl_p (fun _ => o_move rfl) ?_
        refine wl_p (fun _ => o_len (t := 54) Tryd.underlying54 rfl) ?_
        refine wl_p (fun _ => o_lt rfl rfl) ?_
        refine wl_p (fun _ => o_move rfl) ?_
        refine wl_know 22 false rfl (decide_eq_false (by omega)) ?_
        refine wl_off ?_
        refine wl_off ?_
        refine wl_off ?_
        refine wl_off ?_
        refine wl_p (fun _ => o_pick_f rfl rfl) ?_
        refine wl_nil ?_
        refine rk_false rfl ?_
        refine rk_skip ?_
        refine rk_blk ?_
        refine rk_region ?_
        refine wl_p (fun _ => o_add rfl rfl (by omega) (by omega)) ?_
        refine wl_p (fun _ => o_move rfl) ?_
        refine wl_nil ?_
        exact rk_againf (Fr.le_of (by kernel_rfl) (by kernel_rfl) (by repeat' constructor)) ⟨j + 1, (j : Int) + 1, S', rfl, by omega, by omega, rfl, hck.symm, f, fs, fm, f11, hk, hcg⟩ (by omega)
    · refine rk_exit rfl ?_
      obtain rfl : j = cnt C := by omega
      rw [crash_take S C _ _ (Nat.le_refl _)] at hS'
      subst hS'
      rw [hSl] at f
      exact rk_tof hj (Fr.le_of (by kernel_rfl) (by kernel_rfl) (by repeat' constructor)) ⟨rfl, f, fs, fm, hcg⟩
  clear f fs fm f11 hcg hk
  rintro fr W ⟨rfl, f, fs, fm, hcg⟩
  first | refine rk_frame (by simp only [List.cons_append, List.nil_append, List.drop_succ_cons, List.drop_zero]; rfl) ?_ | refine wl_frame (by simp only [List.cons_append, List.nil_append, List.drop_succ_cons, List.drop_zero]; rfl) ?_
  refine rk_seq ?_
  refine rk_region ?_
  refine wl_p (fun _ => o_move rfl) ?_
  refine wl_p (fun _ => o_nil rfl) ?_
  refine wl_p (fun _ => o_faddr (s := 70) (i := 2) (off := 2) Tryd.underlying70 rfl Tryd.sizeOf68 rfl rfl rfl) ?_
  refine wl_r (o_loadbg Tryd.isAgg68 rfl f (by rfl)) ?_
  refine wl_clearM Tryd.underlying68 rfl fm ?_
  rintro w f_1 g_1 e
  have s := g_1.size
  replace hcg := hcg.trans (Chg.of_g1 g_1.g (by omega) (by omega))
  replace fs := fs.m g_1
  replace f := f.k g_1.g (ap_some (by omega))
  clear fm
  refine wl_nil ?_
  refine rk_seq ?_
  refine rk_region ?_
  refine wl_p (fun _ => o_assign rfl) ?_
  refine wl_nil ?_
  refine ret1 rfl rfl ?_
  rw [hle] at f_1
  exact ⟨rfl, ⟨⟨A, c, b, by rw [crash_len]; exact f, fs, f_1, h4, h5, h6⟩, hg1, hg2, by have := hcg.size; omega, by rw [List.length_replicate, crash_len], by rw [crash_len]; exact hn1, by rw [crash_len]; exact hn2⟩, hcg⟩
theorem C_dCrashNil {K : Option Addr} {n c : Nat} (w : World) :
    CallsR Tryd.prog 23 [.pointer none, .slice K n c] w fun v w' => v = .int .i64 1 ∧ Below w.heap.size w w' := by
  refine callsR Tryd.func23 rfl rfl (by kernel_rfl) rfl ?_
  have hw := Below.refl w.heap.size w
  refine rk_seq ?_
  refine rk_region ?_
  refine wl_p (fun _ => o_assign rfl) ?_
  refine wl_nil ?_
  refine rk_seq ?_
  refine rk_seq ?_
  refine rk_region ?_
  refine wl_p (fun _ => o_move rfl) ?_
  refine wl_call rfl (C_validNil _) ?_
  rintro v8 w8 ⟨rfl, rfl⟩
  refine wl_p (fun _ => o_not rfl) ?_
  refine wl_nil ?_
  refine rk_true rfl ?_
  refine rk_seq ?_
  refine rk_region ?_
  refine wl_p (fun _ => o_assign rfl) ?_
  refine wl_nil ?_
  refine ret1 rfl rfl ?_
  exact ⟨rfl, hw⟩
end Go.Proofs.YtklijaahbahcoaaDoor
/-
  A copy of bytes: bytes.Clone.
-/
namespace Go.Proofs.YtklijaahbahcoaaDoor
set_option maxRecDepth 100000
open Go.RowKit
section
variable {P : Program} {N : Nat} {fr : Fr} {w : World} {ty t t' : TypeId} {x y : Operand}
theorem run_equal_slice_nil {e : TypeId} (hu : P.underlying t = some (.slice e)) (A : Option Addr) (n c : Nat) : (Op.equal t (.slice A n c) (.slice none 0 0)).run P w = .ok A.isNone w := by
  have h : ∀ d : Nat, (Op.equalIn (d + 1) t (.slice A n c) (.slice none 0 0)).run P w = .ok A.isNone w := fun d => by
    cases A <;> simp [Op.equalIn, run_underlying hu]
  exact h 9999
--@ rule binOp p o_sleqN
theorem o_sleqN {e : TypeId} {A : Option Addr} {n c : Nat} (hu : P.underlying t = some (.slice e)) (hx : fr.ev x = some (.slice A n c)) (hy : fr.ev y = some (.slice none 0 0)) : OpV P N fr w (.binOp .eql t x y t') ty (.bool A.isNone) w :=
  o_bin hx hy (fun _ _ => by simp [go_sem]) (by simp only [binOp]; simp [run_equal_slice_nil hu])
end
theorem C_bClone {A : Option Addr} {p : List UInt8} {n c : Nat} (w : World) (hp : Rd w A p) (hn : n = p.length) (hl : p.length ≤ 4000000000) :
    CallsR Tryd.prog 33 [.slice A n c] w fun v w' => ∃ A' c', v = .slice A' p.length c' ∧ OwnH w' w.heap.size w'.heap.size A' c' p ∧ Below w.heap.size w w' := by
  subst hn
  rcases A with _ | ad
  · obtain rfl : p = [] := by
      rcases p with _ | ⟨a, p⟩
      · rfl
      · obtain ⟨_, _, e, _⟩ := hp.2 (by simp [B8]); cases e
    refine callsR Tryd.func33 rfl rfl (by kernel_rfl) rfl ?_
    have hw := Below.refl w.heap.size w
    refine rk_seq ?_
    refine rk_region ?_
    refine wl_p (fun _ => o_assign rfl) ?_
    refine wl_nil ?_
    refine rk_seq ?_
    refine rk_seq ?_
    refine rk_region ?_
    refine wl_p (fun _ => o_move rfl) ?_
    refine wl_p (fun _ => (o_sleqN Tryd.underlying22 rfl rfl)) ?_
    refine wl_nil ?_
    refine rk_true rfl ?_
    refine rk_seq ?_
    refine rk_region ?_
    refine wl_p (fun _ => o_assign rfl) ?_
    refine wl_nil ?_
    refine ret1 rfl rfl ?_
    exact ⟨none, 0, rfl, OwnH.nil_, hw⟩
  · refine callsR Tryd.func33 rfl rfl (by kernel_rfl) rfl ?_
    have hw := Below.refl w.heap.size w
    refine rk_seq ?_
    refine rk_region ?_
    refine wl_p (fun _ => o_assign rfl) ?_
    refine wl_nil ?_
    refine rk_seq ?_
    refine rk_seq ?_
    refine rk_region ?_
    refine wl_p (fun _ => o_move rfl) ?_
    refine wl_p (fun _ => (o_sleqN Tryd.underlying22 rfl rfl)) ?_
    refine wl_nil ?_
    refine rk_false rfl ?_
    refine rk_skip ?_
    refine rk_seq ?_
    refine rk_region ?_
    refine wl_litB [] Tryd.u8 Tryd.sizeOf5 Tryd.zeroValue5 (by rfl) rfl rfl (by rfl) (by rfl) (by rfl) ?_
    rintro A5 w5 f5 b5
    have qf5 := f5.cap
    have s5 := b5.size
    replace hw := hw.trans (b5.mono hw.size)
    refine wl_p (fun _ => o_move rfl) ?_
    refine wl_appB Tryd.u8 rfl f5 (by rfl) rfl (hp.u hw) rfl (by omega) hw.size ?_
    rintro A7 c7 w7 f7 g7 b7 i7
    have qf7 := f7.cap
    have s7 := g7.size
    replace hw := hw.trans (b7.mono (by omega))
    clear f5
    refine wl_p (fun _ => o_assign rfl) ?_
    refine wl_nil ?_
    rw [List.nil_append] at f7 ⊢
    refine ret1 rfl rfl ?_
    exact ⟨_, _, rfl, f7, hw⟩
end Go.Proofs.YtklijaahbahcoaaDoor
/-
  append(x, make([]byte, m)...) on a row of bytes of the call's own. No function of the program is named here.
-/
namespace Go.Proofs.YtklijaahbahcoaaDoor
set_option maxRecDepth 100000
open Go.RowKit
/-- The zero bytes, as a string. -/
def zeroS (m : Nat) : ByteArray := ⟨(List.replicate m (0 : UInt8)).toArray⟩
theorem zeroS_size (m : Nat) : (zeroS m).size = m := by
  show (List.replicate m (0 : UInt8)).toArray.size = m
  simp
theorem zeroS_cells (m : Nat) : Go.Lib.strCells (zeroS m) = B8 (List.replicate m 0) := by
  simp [Go.Lib.strCells, zeroS, B8]
section
variable {P : Program} (w : World)
theorem run_append_zs (t u ti ty e : TypeId) (i : TypeInfo) (ht : P.underlying t = some (.slice e)) (hti : P.underlying ti = some (.int .i64)) (hu : P.underlying u = some .string) (hi : P.info? e = some i) (hz : i.zero = some (.int .u8 0)) (hsize : i.size = 1) (hby : i.bytes = 1)
    (A : Option Addr) (n c m : Nat) (h0 : 0 < m) (h : n + m ≤ 4000000000) :
    (Builtin.append_ #[t, ti] ty #[.slice A n c, .int .i64 (m : Int)]).run P w = (Builtin.append_ #[t, u] ty #[.slice A n c, .string (zeroS m)]).run P w := by
  have hw : IntKind.i64.wrap (m : Int) = m := i64_in (by omega) (by omega)
  have hneg : ¬ ((m : Int) < 0) := by omega
  have hb1 : ¬ (281474976710656 < (m : Int)) := by omega
  have h63 : ¬ (9223372036854775807 < ((n : Int) + (m : Int))) := by omega
  have hz1 : (zeroS m).data.toList = List.replicate m 0 := rfl
  have hdl : List.take m (List.map (fun b : UInt8 => Value.int .u8 (b.toNat : Int)) (zeroS m).data.toList) = List.replicate m (Value.int .u8 0) := by
    rw [hz1, List.map_replicate, List.take_of_length_le (by rw [List.length_replicate]; exact Nat.le_refl _)]; rfl
  have hda : Array.map (fun b : UInt8 => Value.int .u8 (b.toNat : Int)) (zeroS m).data = Array.replicate m (Value.int .u8 0) := by
    apply Array.ext'
    rw [Array.toList_map, hz1, List.map_replicate, Array.toList_replicate]; rfl
  have hex : (Array.replicate m (Value.int .u8 0)).extract 0 m = Array.replicate m (Value.int .u8 0) := by
    apply Array.ext
    · simp
    · intro j h1 h2; simp
  have hzc : ∀ k, Builtin.zeroCells (Value.int .u8 0).cells k = (Array.replicate k (Value.int .u8 0)) := fun k => by
    show Builtin.zeroCells #[Value.int .u8 0] k = _
    apply Array.ext
    · simp [Builtin.zeroCells]
    · intro j h1 h2
      simp [Builtin.zeroCells, Nat.mod_one]
  have hm0 : m ≠ 0 := by omega
  by_cases hroom : n + m ≤ c
  · simp [Builtin.append_, run_underlying ht, run_underlying hti, run_underlying hu, sizeOf, typeInfo, zeroValue, hi, hz, hsize, hby, asInt, asIntOf, hw, hneg, hb1, Builtin.lenOf, zeroS_size, hroom, Builtin.firstCells, hdl, hm0, hzc]
  · have h48 := nextslicecap_le (need := n + m) (old := c) (by omega)
    have h48' : ¬ (281474976710656 < Builtin.nextslicecap (n + m) c) := by omega
    simp [Builtin.append_, run_underlying ht, run_underlying hti, run_underlying hu, sizeOf, typeInfo, zeroValue, hi, hz, hsize, hby, asInt, asIntOf, hw, hneg, hb1, h63, Builtin.lenOf, zeroS_size, hroom, Builtin.firstCells, hdl, hm0, hzc, h48', hda, hex]
end
theorem rd_upto {w : World} {A : Option Addr} {p : List UInt8} (h : Rd w A p) (k : Nat) : Rd w A (p.take k) := by
  refine ⟨by rw [B8_length, Nat.mul_one], fun hne => ?_⟩
  have hpne : B8 p ≠ [] := fun e => by
    apply hne
    have : p = [] := by cases p with | nil => rfl | cons a b => cases e
    rw [this]; rw [List.take_nil]; rfl
  obtain ⟨b, o, rfl, hc⟩ := h.2 hpne
  refine ⟨b, o, rfl, fun j u hj => hc j u ?_⟩
  unfold B8 at hj ⊢
  rw [List.getElem?_map] at hj ⊢
  rcases Nat.lt_or_ge j k with h3 | h3
  · rwa [List.getElem?_take_of_lt h3] at hj
  · rw [List.getElem?_eq_none (by rw [List.length_take]; omega)] at hj; cases hj
section
variable {P : Program} {fn : Func} {F : Ending → World → Prop} {N : Nat} {ks : List K} {ops : Array Oper} {tg : Tags} {l : List Oper} {fr : Fr} {w : World} {ty t ti : TypeId} {pos : String} {aft : Array Edge} {gd : Option (Nat × Bool)} {d n c lo hi : Nat} {x y : Operand} {A : Option Addr} {s : List UInt8}
/-- append(x, make([]byte, m)...): x the call's own. -/
theorem wl_appZs (T : U8 P t) {u : TypeId} (hti : P.underlying ti = some (.int .i64)) (hu : P.underlying u = some .string) (m : Nat) {M : Int} (hx : fr.ev x = some (.slice A n c)) (hown : OwnH w lo hi A c s) (hn : n = s.length) (hy : fr.ev y = some (.int .i64 M)) (hM : M = (m : Int)) (hm : 0 < m) (hlen : s.length + m ≤ 4000000000) (hB : lo ≤ w.heap.size)
    (h : ∀ A' c' w', OwnH w' lo w'.heap.size A' c' (s ++ List.replicate m 0) → Grew w w' 5 (blk A) → Below lo w w' → WL P fn F N ks ops tg.tail l ((d, .slice A' (s ++ List.replicate m 0).length c') :: fr) w')
    (ht : tg.loud = true := by rfl) (hg : onG ops fr gd = true := by rfl) (hd : Nat.blt d N = true := by rfl) (hq : tg.calm = false ∨ blk A = none ∨ blk A = tg.row := by exact .inl rfl) :
    WL P fn F N ks ops tg (⟨some d, .call { callee := .builtin .append, args := #[x, y], argTypes := #[t, ti] }, ty, pos, aft, gd⟩ :: l) fr w := by
  subst hn; subst hM
  obtain ⟨i, hi', hz, hs, hb⟩ := info_parts T.hi
  obtain ⟨v', w', hrun, h2, h3, _⟩ := Go.Lib.run_append_own_string (P := P) w lo t u ty 5 i T.ht hu hi' hz hs hb (.slice A s.length c) s.length (B8 s) hown.o (zeroS m) (by rw [zeroS_size]; simp only [maxLen]; omega) (by rw [zeroS_size]; omega) hB
  rw [← run_append_zs (P := P) w t u ti ty 5 i T.ht hti hu hi' hz hs hb A s.length c m hm (by omega)] at hrun
  obtain ⟨A', c', rfl⟩ := ownsRow_shape h2
  rw [blk_own] at h3
  rw [zeroS_size, zeroS_cells, ← B8_append] at h2
  have hl : (s ++ List.replicate m 0).length = s.length + m := by rw [List.length_append, List.length_replicate]
  rw [zeroS_size] at hrun
  rw [← hl] at h2 hrun
  have hlt : ∀ b, blk A = some b → lo ≤ b ∧ b < w.heap.size := RowH.lt hown
  have hO : OwnH w' lo w'.heap.size A' c' (s ++ List.replicate m 0) := ⟨h2, fun k hk => (World.ownsRow.lt h2 k (by rw [blk_own]; exact hk)).2⟩
  exact wl_v (o_builtin (xs := [x, y]) (vs := [.slice A s.length c, .int .i64 (m : Int)]) (by simp [Fr.evs, hx, hy]) (by simp [builtin, hrun]) (by simp)) (h A' c' w' hO ⟨h3, RowH.ty hown⟩ ((Below.refl lo w).grown h3 hB (fun b hb => (hlt b hb).1))) ht hg hd
    (hq.imp id fun e => e.elim (fun e => grown_wide (e ▸ h3) _) (fun e => e ▸ h3))
--@ rule slice l wl_slBB
theorem wl_slBB (T : U8 P t) {p : List UInt8} {z : Operand} {len cap : Nat} {kl kh : IntKind} {L H : Int} (lo hi : Nat) (hx : fr.ev x = some (.slice A len cap)) (hy : fr.ev y = some (.int kl L)) (hz : fr.ev z = some (.int kh H)) (hr : Rd w A p) (hlen : len = p.length) (hl : L = (lo : Int)) (hh : H = (hi : Int)) (h1 : lo ≤ hi) (h2 : hi ≤ p.length) (h3 : p.length ≤ cap)
    (hk : ∀ A' c', Rd w A' ((p.drop lo).take (hi - lo)) → hi - lo ≤ c' → c' ≤ cap → WL P fn F N ks ops tg.tail l ((d, .slice A' (hi - lo) c') :: fr) w) (hg : onG ops fr gd = true := by rfl) (hd : Nat.blt d N = true := by rfl) :
    WL P fn F N ks ops tg (⟨some d, .slice t x (some y) (some z) none, ty, pos, aft, gd⟩ :: l) fr w := by
  obtain ⟨i, hi', hz', hs, hb⟩ := info_parts T.hi
  refine wl_p (fun _ => o_slice (sz := 1) (lo := lo) (hi := hi) T.ht (fun w => by simp [sizeOf, typeInfo, hi', hs]) hx hy hz hl hh h1 (by omega)) (hk _ _ ?_ (by omega) (by omega)) hg hd
  have h4 := (hr.drop (k := lo) (cap := cap) (by omega) h3)
  have h5 : cutA A cap 1 lo = if cap = lo then A else A.map (·.add lo) := by unfold cutA; rw [Nat.mul_one]
  rw [h5]
  exact rd_upto h4 _
--@ rule slice l wl_slBl
theorem wl_slBl (T : U8 P t) {p : List UInt8} {len cap : Nat} {kl : IntKind} {L : Int} (lo : Nat) (hx : fr.ev x = some (.slice A len cap)) (hy : fr.ev y = some (.int kl L)) (hr : Rd w A p) (hlen : len = p.length) (hl : L = (lo : Int)) (h1 : lo ≤ p.length) (h3 : p.length ≤ cap)
    (hk : ∀ A' c', Rd w A' (p.drop lo) → p.length - lo ≤ c' → c' ≤ cap → WL P fn F N ks ops tg.tail l ((d, .slice A' (p.length - lo) c') :: fr) w) (hg : onG ops fr gd = true := by rfl) (hd : Nat.blt d N = true := by rfl) :
    WL P fn F N ks ops tg (⟨some d, .slice t x (some y) none none, ty, pos, aft, gd⟩ :: l) fr w := by
  subst hlen
  obtain ⟨i, hi', hz', hs, hb⟩ := info_parts T.hi
  refine wl_p (fun _ => o_slice_lo (sz := 1) (lo := lo) T.ht (fun w => by simp [sizeOf, typeInfo, hi', hs]) hx hy hl h1) (hk _ _ ?_ (by omega) (by omega)) hg hd
  have h4 := (hr.drop (k := lo) (cap := cap) (by omega) h3)
  have h5 : cutA A cap 1 lo = if cap = lo then A else A.map (·.add lo) := by unfold cutA; rw [Nat.mul_one]
  rw [h5]
  exact h4
--@ rule slice l wl_slBh
theorem wl_slBh (T : U8 P t) {p : List UInt8} {z : Operand} {len cap : Nat} {kh : IntKind} {H : Int} (hi : Nat) (hx : fr.ev x = some (.slice A len cap)) (hz : fr.ev z = some (.int kh H)) (hr : Rd w A p) (hlen : len = p.length) (hh : H = (hi : Int)) (h2 : hi ≤ p.length) (h3 : p.length ≤ cap)
    (hk : Rd w A (p.take hi) → WL P fn F N ks ops tg.tail l ((d, .slice A hi cap) :: fr) w) (hg : onG ops fr gd = true := by rfl) (hd : Nat.blt d N = true := by rfl) :
    WL P fn F N ks ops tg (⟨some d, .slice t x none (some z) none, ty, pos, aft, gd⟩ :: l) fr w := by
  obtain ⟨i, hi', hz', hs, hb⟩ := info_parts T.hi
  exact wl_p (fun _ => o_slice_hi (sz := 1) (hi := hi) T.ht (fun w => by simp [sizeOf, typeInfo, hi', hs]) hx hz hh (by omega)) (hk (rd_upto hr _)) hg hd
end
end Go.Proofs.YtklijaahbahcoaaDoor
/-
  Walks: a disk's clone; a disk of an image.
-/
namespace Go.Proofs.YtklijaahbahcoaaDoor
set_option maxRecDepth 100000
open Go.RowKit
theorem part_one {α : Type} {X : GoT α} {w : World} {M : List α} {ms : List Value} (h0 : 0 < X.sz) (hml : ms.length = M.length * X.sz) (r3 : ∀ i (h : i < M.length), X.T w (part ms X.sz i) M[i]) (h1 : ∀ w cs a, X.T w cs a → ∀ u ∈ cs, u.oneCell' = true) : ∀ u ∈ ms, u.oneCell' = true := fun u hu => by
  obtain ⟨i, hi, rfl⟩ := List.getElem_of_mem hu
  have hq : i / X.sz < M.length := (Nat.div_lt_iff_lt_mul h0).2 (by omega)
  refine h1 _ _ _ (r3 _ hq) _ (List.mem_of_getElem? (i := i % X.sz) ?_)
  rw [part_get (Nat.mod_lt _ h0), Nat.div_add_mod' i X.sz]
  exact List.getElem?_eq_getElem hi
section
variable {fn : Func} {F : Ending → World → Prop} {N : Nat} {ks : List K} {ops : Array Oper} {tg : Tags} {l : List Oper} {fr : Fr} {w w0 : World} {ty : TypeId} {pos : String} {aft : Array Edge} {gd : Option (Nat × Bool)} {d j q c2 lo hi lo2 hi2 : Nat} {x y : Operand} {A X : Option Addr} {M : List Sec}
--@ rule buildSlice l wl_litSec0
theorem wl_litSec0 {ps : Array (Nat × Operand)} (hps : ps = #[]) (hk : ∀ A w', OwnSec w' w.heap.size w'.heap.size A 0 [] → Below w.heap.size w w' → WL Tryd.prog fn F N ks ops tg.tail l ((d, .slice A 0 0) :: fr) w')
    (ht : tg.loud = true := by rfl) (hg : onG ops fr gd = true := by rfl) (hd : Nat.blt d N = true := by rfl) : WL Tryd.prog fn F N ks ops tg (⟨some d, .buildSlice 61 0 ps, ty, pos, aft, gd⟩ :: l) fr w := by
  subst hps
  exact wl_litS (X := gArr 256) (L := []) (xs := []) (vs := []) Tryd.rowSec Tryd.sizeOf67 Tryd.zeroSec rfl rfl rfl rfl rfl (fun i h => absurd h (Nat.not_lt_zero _)) rfl hk ht hg hd
--@ rule append l wl_appSec0
/-- append to nothing. -/
theorem wl_appSec0 (hx : fr.ev x = some (.slice A 0 0)) (hown : OwnSec w lo hi A 0 []) (hy : fr.ev y = some (.slice X j q)) (hr : OwnSec w0 lo2 hi2 X c2 M) (hb : Below w0.heap.size w0 w) (hj : j = M.length) (hlen : M.length ≤ 1000000) (hB : lo ≤ w.heap.size)
    (h : ∀ A' c' w', OwnSec w' lo w'.heap.size A' c' M → Below w.heap.size w w' → WL Tryd.prog fn F N ks ops tg.tail l ((d, .slice A' M.length c') :: fr) w')
    (ht : tg.loud = true := by rfl) (hg : onG ops fr gd = true := by rfl) (hd : Nat.blt d N = true := by rfl) :
    WL Tryd.prog fn F N ks ops tg (⟨some d, .call { callee := .builtin .append, args := #[x, y], argTypes := #[61, 61] }, ty, pos, aft, gd⟩ :: l) fr w := by
  subst hj
  obtain ⟨xs, g1, g2⟩ := hown
  obtain ⟨ms, r1, r2⟩ := hr.u hb
  have hx0 : xs = [] := List.length_eq_zero_iff.1 (by have := g1.rd.1; simpa using this)
  subst hx0
  exact wl_appR0 Tryd.rowSec hx g1 hy r1.rd (part_one (X := gArr 256) (by decide) r1.rd.1 r2 gSec_one) (by simp only [maxLen]; omega) (by omega) hB (fun A' c' w' k1 k2 => h A' c' w' ⟨ms, k1, fun i hi => r2 i hi⟩ k2) ht hg hd
end
/-- An iterator in block r goes through the map in block b; what is still to come. -/
def IterS (w : World) (bd r b : Nat) (C : List (Option Sec)) (lf : Int → Bool) (k : Nat) : Prop :=
  b ≠ bd ∧ ∃ D left, w.ranges (H := Unit) Tryd.prog 3 secElem b r (cnt C) D left k ∧ (∀ z, (Lit.int .i64 z).wf = true → Maps.has D (.int .i64 z) = (cAt C z).isSome ∧ ∀ s, cAt C z = some s → ∀ d, D.atKey (.int .i64 z) d = .lit (.string s.1)) ∧ ∀ z, (Lit.int .i64 z).wf = true → left (.int .i64 z) = lf z
section
variable {w w' : World} {bd r b k : Nat} {C : List (Option Sec)} {lf : Int → Bool}
theorem IterS.kept {row : Option Nat} (h : IterS w bd r b C lf k) (hg : w.grownBy w' row) (h1 : some b ≠ row) (h2 : some r ≠ row) : IterS w' bd r b C lf k := by
  obtain ⟨h0, D, left, h3, h4⟩ := h
  exact ⟨h0, D, left, h3.kept hg h1 h2, h4⟩
theorem IterS.u (h : IterS w bd r b C lf k) (hb : Below w.heap.size w w') : IterS w' bd r b C lf k := h.kept (row := none) (grownBy_of_below hb none) (by simp) (by simp)
theorem IterS.d (h : IterS w bd r b C lf k) : IterS w.drew bd r b C lf k := h.u (below_drew w)
theorem IterS.lt (h : IterS w bd r b C lf k) : r < w.heap.size := by obtain ⟨_, D, left, h3, h4⟩ := h; exact h3.lt
theorem IterS.objs (h : IterS w bd r b C lf k) : (∃ es c, w.heap[b]? = some (.map es c)) ∧ ∃ x y z u, w.heap[r]? = some (.mapIter x y z u) := by
  obtain ⟨_, D, left, ⟨es, clock, since, seen, c0, h1, _, _, _, h2, _⟩, _⟩ := h
  exact ⟨⟨_, _, h1⟩, _, _, _, _, h2⟩
theorem IterS.y {e : TypeId} {row : Option Nat} (h : IterS w bd r b C lf k) (hg : Grew w w' e row) (_ : 0 = 0) : IterS w' bd r b C lf k := by
  obtain ⟨⟨es, c, h1⟩, x, y, z, u, h2⟩ := h.objs
  refine h.kept hg.g (fun e => ?_) (fun e => ?_)
  · obtain ⟨cs, f, h3⟩ := hg.ty b e.symm
    rw [h1] at h3; cases h3
  · obtain ⟨cs, f, h3⟩ := hg.ty r e.symm
    rw [h2] at h3; cases h3
theorem IterS.m (h : IterS w bd r b C lf k) (hg : GrewM w w' bd) : IterS w' bd r b C lf k := by
  obtain ⟨_, x, y, z, u, h2⟩ := h.objs
  have h0 := h.1
  refine h.kept hg.g (fun e => h0 (by injection e)) (fun e => ?_)
  injection e with e
  subst e
  obtain ⟨_, _, h3⟩ := hg.m
  rw [h2] at h3; cases h3
end
section
variable {P : Program} {fn : Func} {F : Ending → World → Prop} {N : Nat} {ks : List K} {ops : Array Oper} {tg : Tags} {l : List Oper} {fr : Fr} {w : World} {ty t : TypeId} {pos : String} {aft : Array Edge} {gd : Option (Nat × Bool)} {d bd b r k : Nat} {x : Operand} {C : List (Option Sec)} {lf : Int → Bool}
theorem wl_rangeS (hu : Tryd.prog.underlying t = some (.map 3 67)) (hx : fr.ev x = some (.map (some b))) (hS : MapS w b C) (hne : b ≠ bd)
    (hk : ∀ r w', IterS w' bd r b C (fun z => (cAt C z).isSome) (cnt C) → Below w.heap.size w w' → w.heap.size ≤ r → r < w'.heap.size → WL Tryd.prog fn F N ks ops tg.tail l ((d, .pointer (some ⟨r, 0, none⟩)) :: fr) w')
    (ht : tg.loud = true := by rfl) (hg : onG ops fr gd = true := by rfl) (hd : Nat.blt d N = true := by rfl) : WL Tryd.prog fn F N ks ops tg (⟨some d, .range t x, ty, pos, aft, gd⟩ :: l) fr w := by
  obtain ⟨D, ho, hs, hD⟩ := hS
  obtain ⟨w', hrun, h1, h2, h3⟩ := ho.range Tryd.keyI hu
  have hb := below_of_grown_none h2
  rw [hs] at h1
  exact wl_v (w' := w') (fun a ha o ho' _ => by simp [execOp, ho', ha.ev hx, hrun]) (hk _ w' ⟨hne, D, _, h1, hD, fun z hz => (hD z hz).1⟩ hb (Nat.le_refl _) (by omega)) ht hg hd (.inr (grown_of_below hb _))
theorem wl_nextS (hx : fr.ev x = some (.pointer (some ⟨r, 0, none⟩))) (hI : IterS w bd r b C lf k) (hl : C.length ≤ 1000000)
    (h0 : (∀ z, (Lit.int .i64 z).wf = true → lf z = false) → WL Tryd.prog fn F N ks ops tg.tail l ((d, .tuple #[.bool false]) :: fr) w)
    (h1 : ∀ (i : Nat) (s : Sec) (w' : World) (k' : Nat), (hi : i < C.length) → C[i] = some s → lf i = true → IterS w' bd r b C (fun z => lf z && decide (z ≠ i)) k' → k' < k → w.grownBy w' (some r) → w'.heap.size = w.heap.size →
      (Instr.entry (.pointer (some ⟨r, 0, none⟩))).run Tryd.prog w' = .ok (.tuple #[.int .i64 (i : Int), vS s]) w' → WL Tryd.prog fn F N ks ops tg.tail l ((d, .tuple #[.bool true, .int .i64 (i : Int), vS s]) :: fr) w')
    (ht : tg.loud = true := by rfl) (hg : onG ops fr gd = true := by rfl) (hd : Nat.blt d N = true := by rfl) (hq : tg.calm = false := by rfl) : WL Tryd.prog fn F N ks ops tg (⟨some d, .next x false, ty, pos, aft, gd⟩ :: l) fr w :=
  fun a ha => left_loud ht fun K hK => by
    rw [if_pos (wanted_on (o := ⟨some d, .next x false, ty, pos, aft, gd⟩) ha hg)]
    obtain ⟨hne, D, left, h3, hD, hL⟩ := hI
    unfold Oper.wp
    rcases h3.next Tryd.keyI ty with ⟨_, hl0, hrun⟩ | ⟨key, v, kl, y, w', cnt', hkey, hlk, hv, hat, hrun, hrg, hlt, hgr, hsz, hen⟩
    · simp [execOp, ha.ev hx, hrun, Result.andThen]
      exact hK _ _ (.inl hq) (h0 (fun z hz => by rw [← hL z hz]; exact hl0 _) _ (ha.put hd _))
    · obtain ⟨z, rfl, rfl, hzw⟩ := Maps.keyOf_i64 Tryd.underlying3 hkey
      have hhas := (hD z hzw).1
      rw [Maps.has_true_of_atKey hat] at hhas
      obtain ⟨s, hs⟩ := Option.isSome_iff_exists.1 hhas.symm
      have h4 := (hD z hzw).2 s hs (.lit (.int .i64 0))
      rw [hat] at h4
      obtain rfl : v = vS s := secElem_lit (ps := y.2) (by rw [hv, ← h4])
      obtain ⟨i, hi, rfl, hci⟩ : ∃ i : Nat, ∃ hi : i < C.length, z = (i : Int) ∧ C[i] = some s := by
        unfold cAt at hs
        split at hs
        · cases hc : C[z.toNat]? with
          | none => rw [hc] at hs; cases hs
          | some c =>
            obtain ⟨h5, h6⟩ := List.getElem?_eq_some_iff.1 hc
            rw [hc] at hs
            exact ⟨z.toNat, h5, by omega, by rw [h6]; exact hs⟩
        · cases hs
      simp [execOp, ha.ev hx, hrun, Result.andThen]
      refine hK _ _ (.inl hq) (h1 i s w' cnt' hi hci (by rw [← hL _ hzw]; exact hlk) ⟨hne, D, _, hrg, hD, fun q hq' => ?_⟩ hlt hgr hsz hen _ (ha.put hd _))
      show (left (.int .i64 q) && !(Lit.int .i64 q).sameKey (.int .i64 (i : Int))) = _
      rw [hL q hq']
      by_cases e : q = (i : Int)
      · subst e; rw [WideAt.sameKey_self (Tryd.keyI.key hkey)]; simp
      · rw [Maps.sameKey_ne (fun h => e (by injection h))]; simp [e]
theorem o_ext10 {a : Value} (hx : fr.ev x = some (.tuple #[a])) : OpV Tryd.prog N fr w (.extract x 0) ty a w := fun a ha o ho _ => by simp [execOp, ho, ha.ev hx, Instr.extract]
theorem o_entryS {v : Value} (hx : fr.ev x = some (.pointer (some ⟨r, 0, none⟩))) (hen : (Instr.entry (.pointer (some ⟨r, 0, none⟩))).run Tryd.prog w = .ok v w) : OpV Tryd.prog N fr w (.entry x) ty v w := fun a ha o ho _ => by
  simp [execOp, ho, ha.ev hx, hen]
end
/-- What has come so far. -/
def gone (C : List (Option Sec)) (lf : Int → Bool) : List (Option Sec) := C.mapIdx fun i c => if lf i then none else c
theorem gone_len (C : List (Option Sec)) (lf : Int → Bool) : (gone C lf).length = C.length := by simp [gone]
theorem gone_all (C : List (Option Sec)) : gone C (fun z => (cAt C z).isSome) = List.replicate C.length none := by
  apply List.ext_getElem
  · simp [gone]
  · intro i h1 h2
    have hi : i < C.length := by simpa [gone] using h1
    simp only [gone, List.getElem_mapIdx, List.getElem_replicate]
    have e := cAt_nat C hi
    cases hc : C[i] with
    | none => simp
    | some s => rw [hc] at e; simp [e]
theorem gone_none (C : List (Option Sec)) {lf : Int → Bool} (h : ∀ i : Nat, i < C.length → lf i = false) : gone C lf = C := by
  apply List.ext_getElem
  · simp [gone]
  · intro i h1 h2
    have hi : i < C.length := by simpa [gone] using h1
    simp [gone, h i hi]
theorem gone_step (C : List (Option Sec)) (lf : Int → Bool) {i : Nat} {s : Sec} (hi : i < C.length) (hc : C[i] = some s) : (gone C lf).set i (some s) = gone C (fun z => lf z && decide (z ≠ i)) := by
  apply List.ext_getElem
  · simp [gone]
  · intro j h1 h2
    have hj : j < C.length := by simpa [gone] using h2
    rw [List.getElem_set]
    simp only [gone, List.getElem_mapIdx]
    by_cases e : i = j
    · subst e; rw [if_pos rfl]; simp [hc]
    · rw [if_neg e]
      have : (j : Int) ≠ (i : Int) := by omega
      simp [this]
end Go.Proofs.YtklijaahbahcoaaDoor
/-
  Rows of numbers of any kind (one cell each), of the call's own: made, read, written, appended. No function of the program is named here.
-/
namespace Go.Proofs.YtklijaahbahcoaaDoor
set_option maxRecDepth 100000
open Go.RowKit
def vK (k : IntKind) (l : List Nat) : List Value := l.map fun x : Nat => .int k (x : Int)
theorem vK_length (k : IntKind) (l : List Nat) : (vK k l).length = l.length := List.length_map ..
theorem vK_one (k : IntKind) (l : List Nat) : ∀ v ∈ vK k l, v.oneCell' = true := fun v h => by
  obtain ⟨x, _, rfl⟩ := List.mem_map.1 h; rfl
theorem vK_get {k : IntKind} {l : List Nat} {j : Nat} (h : j < l.length) : (vK k l)[j]? = some (.int k (l[j] : Int)) := by
  unfold vK; rw [List.getElem?_map, List.getElem?_eq_getElem h]; rfl
theorem vK_append (k : IntKind) (l m : List Nat) : vK k (l ++ m) = vK k l ++ vK k m := List.map_append ..
theorem vK_set (k : IntKind) (l : List Nat) (j a : Nat) : vK k (l.set j a) = (vK k l).set j (.int k (a : Int)) := by
  unfold vK; rw [List.map_set]
/-- Numbers that are read. -/
def RdK (k : IntKind) (w : World) (A : Option Addr) (l : List Nat) : Prop := Reads w 1 A l.length (vK k l)
/-- A row of the call's own. -/
def OwnK (k : IntKind) (e : TypeId) (w : World) (lo hi : Nat) (A : Option Addr) (c : Nat) (l : List Nat) : Prop := RowH w lo hi e 1 A l.length c (vK k l)
theorem OwnK.k {q : IntKind} {w w' : World} {lo hi c : Nat} {e : TypeId} {A : Option Addr} {l : List Nat} {row : Option Nat} (h : OwnK q e w lo hi A c l) (hg : w.grownBy w' row) (ha : Ap row lo hi) : OwnK q e w' lo hi A c l := RowH.k h hg ha
section
variable {k : IntKind} {w w' : World} {lo hi c b : Nat} {e e' : TypeId} {A : Option Addr} {l : List Nat} {row : Option Nat}
theorem RdK.u (h : RdK k w A l) (hb : Below w.heap.size w w') : RdK k w' A l := h.below hb
theorem RdK.d (h : RdK k w A l) : RdK k w.drew A l := h
theorem RdK.nil_ : RdK k w none [] := Reads.none_ _ _ _
theorem RdK.some_ (h : RdK k w A l) (hl : 0 < l.length) : A = some (A.getD ⟨0, 0, none⟩) := Reads.some_ h (by decide) hl
theorem OwnK.u (h : OwnK k e w lo hi A c l) (hb : Below w.heap.size w w') : OwnK k e w' lo hi A c l := RowH.u h hb
theorem OwnK.d (h : OwnK k e w lo hi A c l) : OwnK k e w.drew lo hi A c l := RowH.d h
theorem OwnK.y (h : OwnK k e w lo hi A c l) (hg : Grew w w' e' row) (hne : e' ≠ e) : OwnK k e w' lo hi A c l := RowH.y h hg hne
theorem OwnK.m (h : OwnK k e w lo hi A c l) (hg : GrewM w w' b) : OwnK k e w' lo hi A c l := RowH.m h hg
theorem OwnK.ap {lo' hi' : Nat} (h : OwnK k e w lo hi A c l) (hd : hi ≤ lo' ∨ hi' ≤ lo) : Ap (blk A) lo' hi' := RowH.ap h hd
theorem OwnK.cap (h : OwnK k e w lo hi A c l) : l.length ≤ c := RowH.cap h
theorem OwnK.to_RdK (h : OwnK k e w lo hi A c l) : RdK k w A l := RowH.rd h
theorem OwnK.nil_ : OwnK k e w lo hi none 0 [] := RowH.nil _ _ _ _ _
theorem OwnK.base {lo' hi' : Nat} (h : OwnK k e w lo hi A c l) (h1 : lo' ≤ lo) (h2 : hi ≤ hi') : OwnK k e w lo' hi' A c l := RowH.base h h1 h2
theorem OwnK.some_ (h : OwnK k e w lo hi A c l) (hl : 0 < l.length) : A = some (A.getD ⟨0, 0, none⟩) := h.to_RdK.some_ hl
/-- A row that is there begins at the beginning of its block. -/
theorem OwnK.at_ (h : OwnK k e w lo hi A c l) (hl : 0 < l.length) : ∃ g, A = some ⟨g, 0, none⟩ ∧ blk A = some g := by
  rcases h.o.2 with ⟨h', h0⟩ | ⟨g, cap, cur, hv, _⟩
  · omega
  · injection hv with hv
    exact ⟨g, hv, by rw [hv]; rfl⟩
theorem OwnK.stored {j a : Nat} (h : OwnK k e w lo hi A c l) (hj : j < l.length) :
    OwnK k e (w.setCell (adr A j) (.int k (a : Int))) lo hi A c (l.set j a) ∧ Grew w (w.setCell (adr A j) (.int k (a : Int))) e (blk A) ∧ (w.setCell (adr A j) (.int k (a : Int))).heap.size = w.heap.size ∧ w.frozen? (adr A j) = false ∧ (w.cell? (adr A j)).isSome = true := by
  obtain ⟨g, rfl, hb⟩ := h.at_ (by omega)
  have e1 : adr (some ⟨g, 0, none⟩) j = ⟨g, j, none⟩ := by simp [adr, add_plain]
  rw [e1]
  have h1 := World.ownsRow.stored h.o j (.int k (a : Int))
  refine ⟨⟨?_, h.hi⟩, ⟨by rw [hb]; exact h1.2, RowH.ty h⟩, ?_, World.ownsRow.frozenAt h.o j, ?_⟩
  · show World.ownsRow _ lo e 1 _ (l.set j a).length _
    rw [List.length_set, vK_set]; exact h1.1
  · exact Nat.le_antisymm (by simp) h1.2.size
  · have := (RowH.rd h).adr_ (fun e0 => by have := vK_length k l; rw [e0] at this; simp at this; omega)
    have h2 := this.2 j _ (vK_get (k := k) hj)
    rw [e1] at h2; rw [h2]; rfl
end
section
variable {P : Program} {fn : Func} {F : Ending → World → Prop} {N : Nat} {ks : List K} {ops : Array Oper} {tg : Tags} {l : List Oper} {fr : Fr} {w : World} {ty t e : TypeId} {z : Value} {k k1 k2 : IntKind} {pos : String} {aft : Array Edge} {gd : Option (Nat × Bool)} {d n c a j q lo hi bytes : Nat} {x y : Operand} {A X : Option Addr} {zs ms : List Nat}
--@ rule load r o_ldK
theorem o_ldK (ha' : ∀ w, (isAgg t).run P w = .ok false w) (hx : fr.ev x = some (.pointer (some (adr A j)))) (hr : RdK k w A zs) (hj : j < zs.length) : OpV P N fr w (.load t x) ty (.int k (zs[j] : Int)) w :=
  o_loadA1 ha' hx hr (vK_get hj)
--@ rule store l wl_stK
theorem wl_stK (hs : ∀ w, (sizeOf t).run P w = .ok 1 w) (hx : fr.ev x = some (.pointer (some (adr A j)))) (hown : OwnK k e w lo hi A c zs) (hy : fr.ev y = some (.int k (a : Int))) (hj : j < zs.length)
    (hk : ∀ w', OwnK k e w' lo hi A c (zs.set j a) → Grew w w' e (blk A) → Below lo w w' → w'.heap.size = w.heap.size → WL P fn F N ks ops tg.tail l fr w') (ht : tg.loud = true := by rfl) (hg : onG ops fr gd = true := by rfl) (hq : tg.calm = false ∨ blk A = tg.row := by exact .inl rfl) :
    WL P fn F N ks ops tg (⟨none, .store t x y, ty, pos, aft, gd⟩ :: l) fr w := by
  obtain ⟨h1, h2, h3, h4, h5⟩ := hown.stored (a := a) hj
  obtain ⟨u, hu⟩ := Option.isSome_iff_exists.1 h5
  obtain ⟨g, e1, e2⟩ := hown.at_ (by omega)
  have eg : adr A j = ⟨g, j, none⟩ := by rw [e1]; simp [adr, add_plain]
  rw [eg] at hx hu h4 h1 h2 h3
  refine wl_u (o_store hs hx hy rfl hu h4) (hk _ h1 h2 ?_ h3) ht hg ?_
  · exact below_of_grownBy (by rw [← e2]; exact h2.g) (by have := RowH.lt hown g e2; omega) (by have := RowH.lt hown g e2; omega)
  · rcases hq with hq | hq
    · exact .inl hq
    · exact .inr (Rw.of (show w.grownBy _ tg.row by rw [← hq]; exact h2.g))
theorem wl_litK0 (T : RowT P t e z 1 bytes) (hs : ∀ w, (sizeOf e).run P w = .ok 1 w) (hz : ∀ w, (zeroValue e).run P w = .ok z w)
    (hk : ∀ A w', OwnK k e w' w.heap.size w'.heap.size A 0 [] → Below w.heap.size w w' → WL P fn F N ks ops tg.tail l ((d, .slice A 0 0) :: fr) w')
    (ht : tg.loud = true := by rfl) (hg : onG ops fr gd = true := by rfl) (hd : Nat.blt d N = true := by rfl) : WL P fn F N ks ops tg (⟨some d, .buildSlice t 0 #[], ty, pos, aft, gd⟩ :: l) fr w :=
  wl_litR (xs := []) (vs := []) T hs hz rfl rfl rfl rfl (fun v h => by cases h) (by simp) (fun A w' h1 h2 => hk A w' h1 h2) ht hg hd
theorem wl_appK0 (T : RowT P t e z 1 bytes) (hb : bytes ≤ 8) (hx : fr.ev x = some (.slice A 0 0)) (hown : OwnK k e w lo hi A 0 []) (hy : fr.ev y = some (.slice X j q)) (hr : RdK k w X zs) (hj : j = zs.length) (hlen : zs.length ≤ 1000000) (hB : lo ≤ w.heap.size)
    (h : ∀ A' c' w', OwnK k e w' lo w'.heap.size A' c' zs → Below w.heap.size w w' → WL P fn F N ks ops tg.tail l ((d, .slice A' zs.length c') :: fr) w')
    (ht : tg.loud = true := by rfl) (hg : onG ops fr gd = true := by rfl) (hd : Nat.blt d N = true := by rfl) :
    WL P fn F N ks ops tg (⟨some d, .call { callee := .builtin .append, args := #[x, y], argTypes := #[t, t] }, ty, pos, aft, gd⟩ :: l) fr w := by
  subst hj
  exact wl_appR0 T hx hown hy hr (vK_one k zs) (by simp only [maxLen]; omega) (by have := Nat.mul_le_mul hlen hb; omega) hB (fun A' c' w' h1 h2 => h A' c' w' h1 h2) ht hg hd
theorem wl_appK (T : RowT P t e z 1 bytes) (hb : bytes ≤ 8) (hx : fr.ev x = some (.slice A n c)) (hown : OwnK k e w lo hi A c zs) (hn : n = zs.length) (hy : fr.ev y = some (.slice X j q)) (hr : RdK k w X ms) (hj : j = ms.length) (hlen : zs.length + ms.length ≤ 1000000) (hB : lo ≤ w.heap.size)
    (h : ∀ A' c' w', OwnK k e w' lo w'.heap.size A' c' (zs ++ ms) → Grew w w' e (blk A) → Below lo w w' → (blk A' = blk A ∨ blk A' = some w.heap.size) → WL P fn F N ks ops tg.tail l ((d, .slice A' (zs ++ ms).length c') :: fr) w')
    (ht : tg.loud = true := by rfl) (hg : onG ops fr gd = true := by rfl) (hd : Nat.blt d N = true := by rfl) (hq : tg.calm = false ∨ blk A = none ∨ blk A = tg.row := by exact .inl rfl) :
    WL P fn F N ks ops tg (⟨some d, .call { callee := .builtin .append, args := #[x, y], argTypes := #[t, t] }, ty, pos, aft, gd⟩ :: l) fr w := by
  subst hn; subst hj
  refine wl_appR T hx hown hy hr (vK_one k ms) (by simp only [maxLen]; omega) (by have := Nat.mul_le_mul hlen hb; omega) hB (fun A' c' w' h1 h2 h3 h4 => ?_) ht hg hd hq
  have := h A' c' w' (by unfold OwnK; rw [vK_append, List.length_append]; exact h1) h2 h3 h4
  rwa [List.length_append] at this
theorem wl_mkK {C E : Int} (T : RowT P t e (.int k 0) 1 bytes) (hb : bytes ≤ 8) (n : Nat) (hx : fr.ev x = some (.int k1 E)) (hy : fr.ev y = some (.int k2 C)) (hE : E = (n : Int)) (hC : C = (n : Int)) (hn : n ≤ 1000000)
    (hk : ∀ A w', OwnK k e w' w.heap.size w'.heap.size A n (List.replicate n 0) → Below w.heap.size w w' → WL P fn F N ks ops tg.tail l ((d, .slice A n n) :: fr) w')
    (ht : tg.loud = true := by rfl) (hg : onG ops fr gd = true := by rfl) (hd : Nat.blt d N = true := by rfl) : WL P fn F N ks ops tg (⟨some d, .makeSlice t x y, ty, pos, aft, gd⟩ :: l) fr w := by
  subst hC; subst hE
  obtain ⟨i, hi, hz, hs, hb'⟩ := info_parts T.hi
  obtain ⟨w', hrun, r1, r2⟩ := run_make_full (P := P) w w.heap.size t e i _ 1 T.ht hi hz hs k1 k2 n (by rw [hb']; have := Nat.mul_le_mul hb hn; omega) (by simp only [maxLen]; omega) (Nat.le_refl _)
  have hbl : Below w.heap.size w w' := (Below.refl _ _).grown r2 (Nat.le_refl _) (by simp)
  have e : (madeCells (Value.int k 0).cells (n * 1)).toList = vK k (List.replicate n 0) := by
    rw [Nat.mul_one]; exact (toList_madeCells_one _ _).trans (by simp [vK])
  rw [e] at r1
  have ho : OwnK k _ w' w.heap.size w'.heap.size (some ⟨w.heap.size, 0, none⟩) n (List.replicate n 0) := ⟨by rw [List.length_replicate]; exact r1, fun b hb => (World.ownsRow.lt r1 b (by rw [blk_own]; exact hb)).2⟩
  exact wl_v (fun a ha o ho _ => by simp [execOp, ho, ha.ev hx, ha.ev hy, hrun]) (hk _ w' ho hbl) ht hg hd (.inr (grown_of_below hbl _))
end
end Go.Proofs.YtklijaahbahcoaaDoor
/-
  A byte of a row of the call's own is written; two bytes combined. No function of the program is named here.
-/
namespace Go.Proofs.YtklijaahbahcoaaDoor
set_option maxRecDepth 100000
open Go.RowKit
theorem b8_vK (l : List UInt8) : B8 l = vK .u8 (l.map UInt8.toNat) := by
  unfold B8 vK; rw [List.map_map]; rfl
theorem OwnH.to_K {w : World} {lo hi c : Nat} {A : Option Addr} {l : List UInt8} (h : OwnH w lo hi A c l) : OwnK .u8 5 w lo hi A c (l.map UInt8.toNat) := by
  have h' : RowH w lo hi 5 1 A l.length c (B8 l) := h
  rw [b8_vK] at h'
  show RowH w lo hi 5 1 A (l.map UInt8.toNat).length c _
  rw [List.length_map]
  exact h'
theorem OwnK.to_H {w : World} {lo hi c : Nat} {A : Option Addr} {l : List UInt8} (h : OwnK .u8 5 w lo hi A c (l.map UInt8.toNat)) : OwnH w lo hi A c l := by
  have h' : RowH w lo hi 5 1 A (l.map UInt8.toNat).length c (vK .u8 (l.map UInt8.toNat)) := h
  rw [List.length_map, ← b8_vK] at h'
  exact h'
theorem OwnH.some_ {w : World} {lo hi c : Nat} {A : Option Addr} {l : List UInt8} (h : OwnH w lo hi A c l) (hl : 0 < l.length) : A = some (A.getD ⟨0, 0, none⟩) := h.to_Rd.some_ (by decide) (by simpa using hl)
theorem xor_u8 (a b : UInt8) : bits .xor .u8 (a.toNat : Int) (b.toNat : Int) = ((a ^^^ b).toNat : Int) := by
  have ha := a.toNat_lt
  have hb := b.toNat_lt
  have hx : a.toNat ^^^ b.toNat < 2 ^ 8 := Nat.xor_lt_two_pow (by omega) (by omega)
  have h1 : (BitVec.ofInt 8 (a.toNat : Int)).toNat = a.toNat := by
    rw [BitVec.ofInt_natCast, BitVec.toNat_ofNat]; exact Nat.mod_eq_of_lt (by omega)
  have h2 : (BitVec.ofInt 8 (b.toNat : Int)).toNat = b.toNat := by
    rw [BitVec.ofInt_natCast, BitVec.toNat_ofNat]; exact Nat.mod_eq_of_lt (by omega)
  show IntKind.u8.wrap ((BitVec.ofInt 8 (a.toNat : Int) ^^^ BitVec.ofInt 8 (b.toNat : Int)).toNat : Int) = _
  rw [BitVec.toNat_xor, h1, h2, UInt8.toNat_xor, u8_in (by omega) (by omega)]
section
variable {P : Program} {fn : Func} {F : Ending → World → Prop} {N : Nat} {ks : List K} {ops : Array Oper} {tg : Tags} {l : List Oper} {fr : Fr} {w : World} {ty t t' : TypeId} {pos : String} {aft : Array Edge} {gd : Option (Nat × Bool)} {c j lo hi : Nat} {x y : Operand} {A : Option Addr} {bs : List UInt8} {u v : UInt8}
--@ rule! binOp p o_xor8
theorem o_xor8 (hx : fr.ev x = some (.int .u8 (u.toNat : Int))) (hy : fr.ev y = some (.int .u8 (v.toNat : Int))) : OpV P N fr w (.binOp .xor t x y t') ty (.int .u8 ((u ^^^ v).toNat : Int)) w := o_asi (o_xor hx hy) (xor_u8 u v)
--@ rule store l wl_stO
theorem wl_stO (hs : ∀ w, (sizeOf t).run P w = .ok 1 w) (hx : fr.ev x = some (.pointer (some (adr A j)))) (hown : OwnH w lo hi A c bs) (hy : fr.ev y = some (.int .u8 (u.toNat : Int))) (hj : j < bs.length)
    (hk : ∀ w', OwnH w' lo hi A c (bs.set j u) → Grew w w' 5 (blk A) → Below lo w w' → w'.heap.size = w.heap.size → WL P fn F N ks ops tg.tail l fr w') (ht : tg.loud = true := by rfl) (hg : onG ops fr gd = true := by rfl) (hq : tg.calm = false ∨ blk A = tg.row := by exact .inl rfl) :
    WL P fn F N ks ops tg (⟨none, .store t x y, ty, pos, aft, gd⟩ :: l) fr w :=
  wl_stK (a := u.toNat) hs hx hown.to_K hy (by rw [List.length_map]; exact hj) (fun w' h1 h2 h3 h4 => hk w' (by
    rw [show (bs.map UInt8.toNat).set j u.toNat = (bs.set j u).map UInt8.toNat from List.map_set.symm] at h1
    exact h1.to_H) h2 h3 h4) ht hg hq
--@ rule load r o_loadCut
theorem o_loadCut {N g i n : Nat} {fr : Fr} {w : World} {ty t t' : TypeId} {x : Operand} {cs vs : List Value} (ha' : ∀ w, (isAgg t).run P w = .ok true w) (hs : ∀ w, (sizeOf t).run P w = .ok n w) (hx : fr.ev x = some (.pointer (some ⟨g, i, none⟩))) (hB : Blk w g t' cs) (hv : (cs.drop i).take n = vs) (hn : vs.length = n) : OpV P N fr w (.load t x) ty (.agg vs.toArray) w := by
  subst hn
  refine o_loadn ha' hs hx (fun j u hj => ?_)
  rw [add_plain, hB.cell]
  rw [← hv] at hj
  have hj2 : j < vs.length := by
    rcases Nat.lt_or_ge j vs.length with h | h
    · exact h
    · rw [List.getElem?_eq_none (by rw [List.length_take]; omega)] at hj; cases hj
  rw [List.getElem?_take_of_lt hj2, List.getElem?_drop] at hj
  exact hj
end
end Go.Proofs.YtklijaahbahcoaaDoor
/-
  Contracts of the disk's functions, split by what they answer; rows of truth values read.
-/
namespace Go.Proofs.YtklijaahbahcoaaDoor
set_option maxRecDepth 100000
open Go.RowKit
theorem C_dNewBad {n : Int} (w : World) (h : n < 1 ∨ 16384 < n) :
    CallsR Tryd.prog 11 [.int .i64 n] w fun v w' => v = .tuple #[.pointer none, .int .i64 2] ∧ Below w.heap.size w w' := by
  refine (K_dNew (n := n) w).mono ?_
  rintro v w' ⟨h1 | ⟨h1, h2, _⟩, hw⟩
  · exact ⟨h1.2, hw⟩
  · omega
theorem C_dNewOk {n : Int} {m : Nat} {Z : List Sec} {Q : List (Option Sec)} (w : World) (hm : n = (m : Int)) (hZ : List.replicate m z256 = Z) (hQ : List.replicate m none = Q) (h1 : 1 ≤ m) (h2 : m ≤ 16384) :
    CallsR Tryd.prog 11 [.int .i64 n] w fun v w' => ∃ g, v = .tuple #[.pointer (some ⟨g, 0, none⟩), .int .i64 0] ∧ DkAt w' w.heap.size w'.heap.size g Z Q ∧ Below w.heap.size w w' := by
  subst hm; subst hZ; subst hQ
  refine (K_dNew (n := (m : Int)) w).mono ?_
  rintro v w' ⟨h3 | ⟨_, _, g, h4, h5⟩, hw⟩
  · omega
  · exact ⟨g, h4, by simpa using h5, hw⟩
theorem C_dCrashNone {lo hi g : Nat} {S : List Sec} {C C0 : List (Option Sec)} (w : World) (hd : DkAt w lo hi g S C) (hC0 : List.replicate S.length none = C0) :
    CallsR Tryd.prog 23 [.pointer (some ⟨g, 0, none⟩), .slice none 0 0] w fun v w' => v = .int .i64 0 ∧ DkAt w' lo hi g S C0 ∧ Chg lo hi w w' :=
  C_dCrash (lo2 := lo) (hi2 := lo) (kp := []) w hd RdBo.nil_ (crash_nil S C) hC0 (.inl (Nat.le_refl _)) rfl (by simp)
theorem C_dWriteNil {a : Int} {B : Option Addr} {n c : Nat} (w : World) :
    CallsR Tryd.prog 13 [.pointer none, .int .i64 a, .slice B n c] w fun v w' => v = .int .i64 1 ∧ Below w.heap.size w w' := by
  refine callsR Tryd.func13 rfl rfl (by kernel_rfl) rfl ?_
  have hw := Below.refl w.heap.size w
  refine rk_seq ?_
  refine rk_region ?_
  refine wl_p (fun _ => o_assign rfl) ?_
  refine wl_nil ?_
  refine rk_seq ?_
  refine rk_seq ?_
  refine rk_region ?_
  refine wl_p (fun _ => o_move rfl) ?_
  refine wl_p (fun _ => o_move rfl) ?_
  refine wl_call rfl (C_checkNil _) ?_
  rintro v10 w10 ⟨rfl, rfl⟩
  refine wl_p (fun _ => o_assign rfl) ?_
  refine wl_nil ?_
  refine rk_seq ?_
  refine rk_region ?_
  refine wl_p (fun _ => o_move rfl) ?_
  refine wl_p (fun _ => o_ne rfl rfl) ?_
  refine wl_nil ?_
  refine rk_true rfl ?_
  refine rk_seq ?_
  refine rk_region ?_
  refine wl_p (fun _ => o_move rfl) ?_
  refine wl_p (fun _ => o_assign rfl) ?_
  refine wl_nil ?_
  refine ret1 rfl rfl ?_
  exact ⟨rfl, hw⟩
theorem C_dWriteN {lo hi g n cp : Nat} {S : List Sec} {C : List (Option Sec)} {r : List (Option Sec) × Nat} {a : Int} {B : Option Addr} {b : By} (w : World) (hd : DkAt w lo hi g S C) (hb : Rd w B b) (hr : wrC S C a b = r) (wa : (Lit.int .i64 a).wf = true) (hn : n = b.length) (hc : n ≤ cp) :
    CallsR Tryd.prog 13 [.pointer (some ⟨g, 0, none⟩), .int .i64 a, .slice B n cp] w fun v w' => v = .int .i64 (r.2 : Int) ∧ DkAt w' lo hi g S r.1 ∧ Chg lo hi w w' := by
  refine (K_dWrite w hd hb wa hn hc).mono ?_
  rintro v w' ⟨C1, e1, rfl, h1, h2, h3⟩
  rw [hr] at h1
  subst h1
  exact ⟨rfl, h2, h3⟩
theorem C_dReadN {lo hi g : Nat} {S : List Sec} {C : List (Option Sec)} {a : Int} {r : By × Nat} (w : World) (hd : DkAt w lo hi g S C) (hr : rdD S C a = r) (wa : (Lit.int .i64 a).wf = true) :
    CallsR Tryd.prog 32 [.pointer (some ⟨g, 0, none⟩), .int .i64 a] w fun v w' => ∃ (A : Option Addr) (c : Nat), v = .tuple #[.slice A r.1.length c, .int .i64 (r.2 : Int)] ∧ RdB w' w.heap.size w'.heap.size A r.1 ∧ r.1.length ≤ c ∧ Below w.heap.size w w' := by
  refine (K_dRead w hd wa).mono ?_
  rintro v w' ⟨A, c, r1, e1, rfl, h1, h2, h3⟩
  rw [hr] at h1
  subst h1
  exact ⟨A, c, rfl, h2, h3⟩
theorem rsl_bools {w : World} {A : Option Addr} {l : List Bool} (h : RSl gBool w A l) : Reads w 1 A l.length (l.map Value.bool) := by
  obtain ⟨xs, h1, h2⟩ := h
  have hl : xs.length = l.length := by have := h1.1; simpa [gBool, GoT.flat] using this
  have e : xs = l.map Value.bool := by
    apply List.ext_getElem
    · rw [hl, List.length_map]
    · intro i hi1 hi2
      obtain ⟨h3, _⟩ := h2 i (by omega)
      have h4 : part xs 1 i = [xs[i]] := by
        unfold part
        rw [Nat.mul_one, List.drop_eq_getElem_cons hi1]; rfl
      have h5 : part xs 1 i = [Value.bool l[i]] := h3
      rw [h4] at h5
      rw [List.getElem_map]
      injection h5
  rw [← e]; exact h1
end Go.Proofs.YtklijaahbahcoaaDoor
/-
  Bits in words, plain: which pages are in use.
-/
namespace Go.Proofs.YtklijaahbahcoaaDoor
set_option maxRecDepth 100000
/-- The number whose bits are these, from the lowest one on. -/
def wd : List Bool → Nat
  | [] => 0
  | b :: B => b.toNat + 2 * wd B
theorem wd_lt : ∀ B, wd B < 2 ^ B.length
  | [] => by simp [wd]
  | b :: B => by
    have := wd_lt B
    rw [wd, List.length_cons, Nat.pow_succ]
    have := Bool.toNat_le b
    omega
theorem wd_bit : ∀ (B : List Bool) (i : Nat), (wd B).testBit i = B.getD i false
  | [], i => by simp [wd]
  | b :: B, 0 => by
    rw [wd, Nat.testBit_zero, List.getD_cons_zero]
    cases b <;> simp <;> omega
  | b :: B, i + 1 => by
    rw [wd, Nat.testBit_succ, List.getD_cons_succ, ← wd_bit B i]
    congr 1
    have := Bool.toNat_le b
    omega
/-- The words that have these bits. -/
def wds (U : List Bool) : List Nat := (List.range ((U.length + 63) / 64)).map fun i => wd ((U.drop (64 * i)).take 64)
theorem wds_len (U : List Bool) : (wds U).length = (U.length + 63) / 64 := by rw [wds, List.length_map, List.length_range]
theorem wds_get (U : List Bool) {i : Nat} (h : i < (wds U).length) : (wds U)[i] = wd ((U.drop (64 * i)).take 64) := by simp [wds]
theorem wds_lt (U : List Bool) {i : Nat} (h : i < (wds U).length) : (wds U)[i] < 2 ^ 64 := by
  rw [wds_get]
  refine Nat.lt_of_lt_of_le (wd_lt _) (Nat.pow_le_pow_right (by decide) ?_)
  rw [List.length_take]; omega
theorem wds_bit (U : List Bool) {i : Nat} (h : i < (wds U).length) {j : Nat} (hj : j < 64) : (wds U)[i].testBit j = U.getD (64 * i + j) false := by
  rw [wds_get, wd_bit, List.getD_eq_getElem?_getD, List.getD_eq_getElem?_getD, List.getElem?_take_of_lt hj, List.getElem?_drop]
theorem bit_hi {x : Nat} (h : x < 2 ^ 64) {j : Nat} (hj : 64 ≤ j) : x.testBit j = false := Nat.testBit_lt_two_pow (Nat.lt_of_lt_of_le h (Nat.pow_le_pow_right (by decide) hj))
theorem wds_ext {zs : List Nat} {U : List Bool} (hl : zs.length = (U.length + 63) / 64) (h : ∀ i (hi : i < zs.length), zs[i] < 2 ^ 64 ∧ ∀ j, j < 64 → zs[i].testBit j = U.getD (64 * i + j) false) : zs = wds U := by
  apply List.ext_getElem (by rw [hl, wds_len])
  intro i h1 h2
  apply Nat.eq_of_testBit_eq
  intro j
  obtain ⟨h3, h4⟩ := h i h1
  rcases Nat.lt_or_ge j 64 with hj | hj
  · rw [h4 j hj, wds_bit U h2 hj]
  · rw [bit_hi h3 hj, bit_hi (wds_lt U h2) hj]
theorem getD_set (U : List Bool) (n k : Nat) (b : Bool) (h : n < U.length) : (U.set n b).getD k false = if k = n then b else U.getD k false := by
  rw [List.getD_eq_getElem?_getD, List.getD_eq_getElem?_getD, List.getElem?_set]
  by_cases e : n = k
  · subst e; simp [h]
  · rw [if_neg e, if_neg (fun h => e h.symm)]
/-- A word is changed in one bit. -/
theorem wds_set (U : List Bool) (n : Nat) (b : Bool) (h : n < U.length) (x : Nat) (hn : n / 64 < (wds U).length) (hx : x < 2 ^ 64) (hb : ∀ j, j < 64 → x.testBit j = if j = n % 64 then b else ((wds U)[n / 64]).testBit j) : (wds U).set (n / 64) x = wds (U.set n b) := by
  apply wds_ext (by rw [List.length_set, List.length_set, wds_len])
  intro i hi
  rw [List.length_set] at hi
  rw [List.getElem_set]
  by_cases e : n / 64 = i
  · subst e
    rw [if_pos rfl]
    refine ⟨hx, fun j hj => ?_⟩
    rw [hb j hj, getD_set U n _ b h, wds_bit U hn hj]
    by_cases e : j = n % 64
    · rw [if_pos e, if_pos (by omega)]
    · rw [if_neg e, if_neg (by omega)]
  · rw [if_neg e]
    refine ⟨wds_lt U hi, fun j hj => ?_⟩
    rw [wds_bit U hi hj, getD_set U n _ b h, if_neg (by omega)]
theorem wds_mark (U : List Bool) (n : Nat) (h : n < U.length) (hn : n / 64 < (wds U).length) : (wds U).set (n / 64) ((wds U)[n / 64] ||| 2 ^ (n % 64)) = wds (U.set n true) := by
  refine wds_set U n true h _ hn (Nat.or_lt_two_pow (wds_lt U hn) (Nat.pow_lt_pow_right (by decide) (Nat.mod_lt _ (by decide)))) (fun j hj => ?_)
  rw [Nat.testBit_or, Nat.testBit_two_pow]
  by_cases e : j = n % 64
  · rw [if_pos e]; simp [e]
  · rw [if_neg e, decide_eq_false (fun h => e h.symm), Bool.or_false]
theorem wds_free (U : List Bool) (n x : Nat) (h : n < U.length) (hn : n / 64 < (wds U).length) (hx : x < 2 ^ 64) (hb : ∀ j, j < 64 → x.testBit j = ((wds U)[n / 64].testBit j && !decide (n % 64 = j))) : (wds U).set (n / 64) x = wds (U.set n false) := by
  refine wds_set U n false h _ hn hx (fun j hj => ?_)
  rw [hb j hj]
  by_cases e : j = n % 64
  · rw [if_pos e]; simp [e]
  · rw [if_neg e, decide_eq_false (fun h => e h.symm), Bool.not_false, Bool.and_true]
theorem wds_none (n : Nat) : List.replicate ((n + 63) / 64) 0 = wds (List.replicate n false) := by
  apply wds_ext (by rw [List.length_replicate, List.length_replicate])
  intro i hi
  rw [List.getElem_replicate]
  refine ⟨by decide, fun j hj => ?_⟩
  rw [Nat.zero_testBit, List.getD_eq_getElem?_getD, List.getElem?_replicate]
  split <;> rfl
/-! The lowest bit. -/
theorem ctz_bit {x : Nat} (h0 : x ≠ 0) (h : x < 2 ^ 64) : x.testBit (Lib.ctz 64 x) = true ∧ (∀ j, j < Lib.ctz 64 x → x.testBit j = false) ∧ Lib.ctz 64 x < 64 ∧ ∀ j, (x &&& (x - 1)).testBit j = (x.testBit j && !decide (j = Lib.ctz 64 x)) := by
  obtain ⟨m, hm, hl⟩ := Lib.ctzFrom_spec 64 x (by omega) h
  have e : Lib.ctz 64 x = Lib.ctzFrom 64 x := by rw [Lib.ctz, if_neg h0]
  rw [e]
  obtain ⟨k, hk⟩ : ∃ k, Lib.ctzFrom 64 x = k := ⟨_, rfl⟩
  rw [hk] at hm hl ⊢
  have hb : ∀ j, x.testBit j = (decide (k ≤ j) && (2 * m + 1).testBit (j - k)) := fun j => by rw [hm, Nat.testBit_two_pow_mul]
  have hp : 0 < 2 ^ k := Nat.two_pow_pos k
  have e1 : x - 1 = 2 ^ k * (2 * m) + (2 ^ k - 1) := by
    rw [hm, Nat.mul_add, Nat.mul_one]; omega
  refine ⟨by rw [hb]; simp, fun j hj => by rw [hb, decide_eq_false (by omega), Bool.false_and], hl, fun j => ?_⟩
  rw [Nat.testBit_and, e1, Nat.testBit_two_pow_mul_add _ (by omega), hb j]
  rcases Nat.lt_trichotomy j k with hj | hj | hj
  · rw [decide_eq_false (by omega)]; simp
  · subst hj; simp
  · rw [if_neg (by omega), decide_eq_true (by omega), decide_eq_false (by omega)]
    obtain ⟨d, hd⟩ : ∃ d, j - k = d + 1 := ⟨j - k - 1, by omega⟩
    rw [hd, Nat.testBit_succ, Nat.testBit_succ, show (2 * m + 1) / 2 = m by omega, show 2 * m / 2 = m by omega]
    simp
/-! Which are in use. -/
def usd (U : List Bool) (n : Nat) : List Nat := (List.range n).filter fun i => U.getD i false
theorem usd_succ (U : List Bool) (n : Nat) : usd U (n + 1) = if U.getD n false then usd U n ++ [n] else usd U n := by
  rw [usd, List.range_succ, List.filter_append]
  cases h : U.getD n false with
  | true => rw [if_pos rfl, List.filter_cons_of_pos (by simpa using h)]; rfl
  | false => rw [if_neg (by simp), List.filter_cons_of_neg (by simpa using h), List.filter_nil, List.append_nil]; rfl
theorem usd_skip (U : List Bool) {t : Nat} : ∀ {c : Nat}, t ≤ c → (∀ j, t ≤ j → j < c → U.getD j false = false) → usd U c = usd U t
  | 0, h, _ => by rw [show t = 0 by omega]
  | c + 1, h, hj => by
    rcases Nat.lt_or_ge c t with h1 | h1
    · rw [show t = c + 1 by omega]
    · rw [usd_succ, hj c h1 (by omega), if_neg (by simp), usd_skip U h1 (fun j a b => hj j a (by omega))]
theorem getD_past (U : List Bool) {j : Nat} (h : U.length ≤ j) : U.getD j false = false := by
  rw [List.getD_eq_getElem?_getD, List.getElem?_eq_none h]; rfl
theorem usd_past (U : List Bool) {n : Nat} (h : U.length ≤ n) : usd U n = usd U U.length := usd_skip U h (fun _ a _ => getD_past U a)
theorem usd_le (U : List Bool) (n : Nat) : (usd U n).length ≤ n := Nat.le_trans (List.length_filter_le _ _) (by rw [List.length_range]; exact Nat.le_refl _)
theorem usd_add (U : List Bool) (a b : Nat) : (usd U (a + b)).length = (usd U a).length + (List.range b).countP (fun j => U.getD (a + j) false) := by
  unfold usd
  rw [List.range_add, List.filter_append, List.length_append, List.filter_map, List.length_map, List.countP_eq_length_filter]
  rfl
/-- How many bits of a word are 1. -/
def popN (x : Nat) : Nat := (List.range 64).countP fun j => x.testBit j
theorem popN_le (x : Nat) : popN x ≤ 64 := Nat.le_trans List.countP_le_length (by simp)
theorem usd_word (U : List Bool) {i : Nat} (h : i < (wds U).length) : (usd U (64 * (i + 1))).length = (usd U (64 * i)).length + popN (wds U)[i] := by
  rw [Nat.mul_add, Nat.mul_one, usd_add, popN]
  congr 1
  apply List.countP_congr
  intro j hj
  rw [wds_bit U h (List.mem_range.1 hj)]
/-- The first page that is not in use. -/
def least (U : List Bool) : Nat := U.findIdx (!·)
theorem least_le (U : List Bool) : least U ≤ U.length := List.findIdx_le_length
theorem least_of (U : List Bool) {n : Nat} (h1 : ∀ j, j < n → U.getD j false = true) (h2 : U.getD n false = false) : min n U.length = least U := by
  have hn : n ≤ U.length := by
    rcases Nat.lt_or_ge U.length n with h | h
    · have := h1 U.length h
      rw [getD_past U (Nat.le_refl _)] at this; cases this
    · exact h
  rw [Nat.min_eq_left hn]
  rcases Nat.lt_or_ge n U.length with h | h
  · refine ((List.findIdx_eq h).2 ⟨?_, fun j hj => ?_⟩).symm
    · have : U.getD n false = U[n] := by rw [List.getD_eq_getElem?_getD, List.getElem?_eq_getElem h]; rfl
      rw [← this, h2]; rfl
    · have := h1 j hj
      rw [List.getD_eq_getElem?_getD, List.getElem?_eq_getElem (by omega)] at this
      have this : U[j] = true := this
      simp [this]
  · have e : n = U.length := by omega
    rw [e]
    refine (List.findIdx_eq_length.2 (fun x hx => ?_)).symm
    obtain ⟨j, hj, rfl⟩ := List.getElem_of_mem hx
    have := h1 j (by omega)
    rw [List.getD_eq_getElem?_getD, List.getElem?_eq_getElem hj] at this
    have this : U[j] = true := this
    simp [this]
theorem least_all (U : List Bool) (h : ∀ j, j < U.length → U.getD j false = true) : U.length = least U := by
  rw [← least_of U h (getD_past U (Nat.le_refl _)), Nat.min_self]
theorem not_bit {x : Nat} (h : x < 2 ^ 64) {j : Nat} (hj : j < 64) : (2 ^ 64 - 1 - x).testBit j = !x.testBit j := by
  rw [show 2 ^ 64 - 1 - x = 2 ^ 64 - (x + 1) by omega, Nat.testBit_two_pow_sub_succ h]
  simp [hj]
end Go.Proofs.YtklijaahbahcoaaDoor
/-
  Bits of a word counted by sums within it, plain.
-/
namespace Go.Proofs.YtklijaahbahcoaaDoor
set_option maxRecDepth 100000
/-- A number by its bytes, from the lowest one on. -/
def dg : List Nat → Nat
  | [] => 0
  | b :: L => b + 256 * dg L
theorem and_split (k u v u' v' : Nat) (h : u < 2 ^ k) (h' : u' < 2 ^ k) : (u + 2 ^ k * v) &&& (u' + 2 ^ k * v') = (u &&& u') + 2 ^ k * (v &&& v') := by
  apply Nat.eq_of_testBit_eq
  intro j
  have h3 : u &&& u' < 2 ^ k := Nat.and_lt_two_pow _ h'
  rw [Nat.testBit_and, Nat.add_comm u, Nat.add_comm u', Nat.add_comm (u &&& u'), Nat.testBit_two_pow_mul_add _ h, Nat.testBit_two_pow_mul_add _ h', Nat.testBit_two_pow_mul_add _ h3]
  split
  · rw [Nat.testBit_and]
  · rw [Nat.testBit_and]
theorem and_low (k u v c : Nat) (h : u < 2 ^ k) (h' : c < 2 ^ k) : (u + 2 ^ k * v) &&& c = u &&& c := by
  have := and_split k u v c 0 h h'
  simpa using this
theorem shr_and (s c : Nat) (hs : s ≤ 8) (hc : c < 2 ^ (8 - s)) : ∀ L : List Nat, (∀ b ∈ L, b < 256) → (dg L / 2 ^ s) &&& dg (List.replicate L.length c) = dg (L.map fun b => (b / 2 ^ s) &&& c)
  | [], _ => by simp [dg]
  | b :: L, h => by
    have ih := shr_and s c hs hc L (fun x hx => h x (List.mem_cons_of_mem _ hx))
    have hb := h b (List.mem_cons_self ..)
    rw [List.length_cons, List.replicate_succ, dg, dg, List.map_cons, dg, ← ih]
    have h2 : (2 : Nat) ^ s * 2 ^ (8 - s) = 256 := by rw [← Nat.pow_add, Nat.add_sub_cancel' hs]
    obtain ⟨p, hp⟩ : ∃ p, 2 ^ s = p := ⟨_, rfl⟩
    obtain ⟨q, hq⟩ : ∃ q, 2 ^ (8 - s) = q := ⟨_, rfl⟩
    have hp0 : 0 < p := by rw [← hp]; exact Nat.two_pow_pos s
    have hbq : b / p < q := by rw [Nat.div_lt_iff_lt_mul hp0, Nat.mul_comm]; rw [hp, hq] at h2; omega
    obtain ⟨y, hy⟩ : ∃ y, dg L = y := ⟨_, rfl⟩
    have e : (b + 256 * y) / 2 ^ s = (b / p + q * (y % p)) + 2 ^ 8 * (y / p) := by
      rw [hp, ← h2, hp, hq, Nat.mul_assoc, Nat.add_mul_div_left _ _ hp0]
      have h5 : y = y % p + p * (y / p) := (Nat.mod_add_div y p).symm
      have h6 : (2 : Nat) ^ 8 = q * p := by rw [Nat.mul_comm, ← hp, ← hq, h2]
      rw [h6]
      conv => lhs; rw [h5]
      rw [Nat.mul_add, Nat.mul_assoc]
      omega
    have hyp : y % p < p := Nat.mod_lt _ hp0
    have hlow : b / p + q * (y % p) < 2 ^ 8 := by
      have h7 : q * (y % p) + q ≤ q * p := by rw [← Nat.mul_succ]; exact Nat.mul_le_mul_left _ hyp
      have h6 : (2 : Nat) ^ 8 = q * p := by rw [Nat.mul_comm, ← hp, ← hq, h2]
      rw [h6]; omega
    rw [hq] at hc
    have hq8 : q ≤ 2 ^ 8 := by rw [← hq]; exact Nat.pow_le_pow_right (by decide) (by omega)
    have hc8 : c < 2 ^ 8 := by omega
    rw [hy] at *
    rw [e, show (256 : Nat) = 2 ^ 8 from rfl, and_split 8 _ _ _ _ hlow hc8, hp]
    congr 1
    rw [← hq] at hc hbq ⊢
    exact and_low (8 - s) _ _ c hbq hc
theorem dg_add : ∀ L M : List Nat, L.length = M.length → dg L + dg M = dg (List.zipWith (· + ·) L M)
  | [], [], _ => by simp [dg]
  | a :: L, b :: M, h => by
    rw [List.zipWith_cons_cons, dg, dg, dg, ← dg_add L M (by simpa using h)]
    omega
/-- The bits of a byte, counted two by two, four by four, all. -/
def p1 (b : Nat) : Nat := ((b / 2) &&& 85) + (b &&& 85)
def p2 (b : Nat) : Nat := ((b / 4) &&& 51) + (b &&& 51)
def p3 (b : Nat) : Nat := b / 16 + b % 16
theorem p1_lt : ∀ b : Fin 256, p1 b.val < 256 := by decide +kernel
theorem p2_lt : ∀ b : Fin 256, p2 (p1 b.val) < 256 ∧ p2 (p1 b.val) / 16 ≤ 4 ∧ p2 (p1 b.val) % 16 ≤ 4 := by decide +kernel
theorem p3_eq : ∀ b : Fin 256, p3 (p2 (p1 b.val)) = Lib.popAux 8 b.val := by decide +kernel
theorem p3_le : ∀ b : Fin 256, p3 (p2 (p1 b.val)) ≤ 8 := by decide +kernel
theorem zip_map (f g : Nat → Nat) : ∀ L : List Nat, List.zipWith (· + ·) (L.map f) (L.map g) = L.map fun b => f b + g b
  | [] => rfl
  | a :: L => by rw [List.map_cons, List.map_cons, List.zipWith_cons_cons, zip_map f g L, List.map_cons]
theorem step12 (s c p m : Nat) (hs : s ≤ 8) (hc : c < 2 ^ (8 - s)) (hp : 2 ^ s = p) (L : List Nat) (hm : dg (List.replicate L.length c) = m) (h : ∀ b ∈ L, b < 256) :
    ((dg L / p) &&& m) + (dg L &&& m) = dg (L.map fun b => ((b / p) &&& c) + (b &&& c)) := by
  subst hp; subst hm
  have h0 := shr_and 0 c (by omega) (Nat.lt_of_lt_of_le hc (Nat.pow_le_pow_right (by decide) (by omega))) L h
  simp only [Nat.pow_zero, Nat.div_one] at h0
  rw [shr_and s c hs hc L h, h0, dg_add _ _ (by simp), zip_map]
theorem dg_mod (b : Nat) (L : List Nat) : dg (b :: L) % 16 = b % 16 := by rw [dg]; omega
theorem step3a : ∀ L : List Nat, (∀ b ∈ L, b < 256 ∧ b / 16 ≤ 4 ∧ b % 16 ≤ 4) → (dg L / 16 + dg L) &&& dg (List.replicate L.length 15) = dg (L.map p3)
  | [], _ => by simp [dg]
  | b :: L, h => by
    have ih := step3a L (fun x hx => h x (List.mem_cons_of_mem _ hx))
    obtain ⟨h1, h2, h3⟩ := h b (List.mem_cons_self ..)
    have hy : dg L % 16 ≤ 4 := by
      cases L with
      | nil => simp [dg]
      | cons a L => rw [dg_mod]; exact (h a (by simp)).2.2
    rw [List.length_cons, List.replicate_succ, List.map_cons, dg, dg, dg, ← ih]
    obtain ⟨y, hy'⟩ : ∃ y, dg L = y := ⟨_, rfl⟩
    rw [hy'] at hy ⊢
    have e : (b + 256 * y) / 16 + (b + 256 * y) = (b / 16 + b + 16 * (y % 16)) + 2 ^ 8 * (y / 16 + y) := by omega
    rw [e, show (256 : Nat) = 2 ^ 8 from rfl, and_split 8 _ _ _ _ (by omega) (by omega)]
    congr 1
    rw [show (15 : Nat) = 2 ^ 4 - 1 from rfl, Nat.and_two_pow_sub_one_eq_mod, p3]
    omega
theorem step3 (m : Nat) (L : List Nat) (hm : dg (List.replicate L.length 15) = m) (h : ∀ b ∈ L, b < 256 ∧ b / 16 ≤ 4 ∧ b % 16 ≤ 4) : (dg L / 16 + dg L) &&& m = dg (L.map p3) := by
  subst hm; exact step3a L h
theorem pop_byte (f b y : Nat) (hb : b < 256) : Lib.popAux (f + 8) (b + 256 * y) = Lib.popAux 8 b + Lib.popAux f y := by
  simp only [Lib.popAux]
  have e : (b + 256 * y) / 2 / 2 / 2 / 2 / 2 / 2 / 2 / 2 = y := by omega
  rw [e]
  omega
theorem pop_range : ∀ (n x : Nat), (List.range n).countP (fun j => x.testBit j) = Lib.popAux n x
  | 0, _ => rfl
  | n + 1, x => by
    rw [List.range_succ_eq_map, List.countP_cons, List.countP_map, Lib.popAux, ← pop_range n (x / 2), Nat.add_comm]
    congr 1
    · rw [Nat.testBit_zero]
      rcases Nat.mod_two_eq_zero_or_one x with h | h <;> simp [h]
    · apply List.countP_congr
      intro j _
      simp [Function.comp, Nat.testBit_succ]
theorem of_bytes (x : Nat) (h : x < 18446744073709551616) : ∃ a0 a1 a2 a3 a4 a5 a6 a7 : Nat, x = dg [a0, a1, a2, a3, a4, a5, a6, a7] ∧ a0 < 256 ∧ a1 < 256 ∧ a2 < 256 ∧ a3 < 256 ∧ a4 < 256 ∧ a5 < 256 ∧ a6 < 256 ∧ a7 < 256 := by
  refine ⟨x % 256, x / 256 % 256, x / 65536 % 256, x / 16777216 % 256, x / 4294967296 % 256, x / 1099511627776 % 256, x / 281474976710656 % 256, x / 72057594037927936 % 256, ?_, ?_⟩
  · simp only [dg]; omega
  · omega
theorem dg_le (m : Nat) : ∀ L : List Nat, (∀ b ∈ L, b ≤ m) → dg L ≤ dg (List.replicate L.length m)
  | [], _ => by simp [dg]
  | b :: L, h => by
    have := dg_le m L (fun x hx => h x (List.mem_cons_of_mem _ hx))
    have := h b (List.mem_cons_self ..)
    rw [List.length_cons, List.replicate_succ, dg, dg]; omega
theorem tail8 {b0 b1 b2 b3 b4 b5 b6 b7 y : Nat} (g0 : b0 ≤ 8) (g1 : b1 ≤ 8) (g2 : b2 ≤ 8) (g3 : b3 ≤ 8) (g4 : b4 ≤ 8) (g5 : b5 ≤ 8) (g6 : b6 ≤ 8) (g7 : b7 ≤ 8)
    (e : y = b0 + 256 * (b1 + 256 * (b2 + 256 * (b3 + 256 * (b4 + 256 * (b5 + 256 * (b6 + 256 * b7))))))) :
    ∃ y4 y5 y6, y + y / 256 = y4 ∧ y4 + y4 / 65536 = y5 ∧ y5 + y5 / 4294967296 = y6 ∧ y4 < 9223372036854775808 ∧ y5 < 9223372036854775808 ∧ y6 < 9223372036854775808 ∧ y6 % 128 = b0 + b1 + b2 + b3 + b4 + b5 + b6 + b7 := by
  have q1 : y / 256 = b1 + 256 * (b2 + 256 * (b3 + 256 * (b4 + 256 * (b5 + 256 * (b6 + 256 * b7))))) := by omega
  obtain ⟨y4, h4⟩ : ∃ y4, y + y / 256 = y4 := ⟨_, rfl⟩
  have r1 : y4 = (b0 + b1) + 256 * ((b1 + b2) + 256 * ((b2 + b3) + 256 * ((b3 + b4) + 256 * ((b4 + b5) + 256 * ((b5 + b6) + 256 * ((b6 + b7) + 256 * b7)))))) := by omega
  have q2 : y4 / 65536 = (b2 + b3) + 256 * ((b3 + b4) + 256 * ((b4 + b5) + 256 * ((b5 + b6) + 256 * ((b6 + b7) + 256 * b7)))) := by clear q1 h4 e; omega
  obtain ⟨y5, h5⟩ : ∃ y5, y4 + y4 / 65536 = y5 := ⟨_, rfl⟩
  have r2 : y5 = (b0 + b1 + b2 + b3) + 256 * ((b1 + b2 + b3 + b4) + 256 * ((b2 + b3 + b4 + b5) + 256 * ((b3 + b4 + b5 + b6) + 256 * ((b4 + b5 + b6 + b7) + 256 * ((b5 + b6 + b7) + 256 * ((b6 + b7) + 256 * b7)))))) := by clear q1 h4 e; omega
  have q3 : y5 / 4294967296 = (b4 + b5 + b6 + b7) + 256 * ((b5 + b6 + b7) + 256 * ((b6 + b7) + 256 * b7)) := by clear q1 h4 e r1 q2 h5; omega
  refine ⟨y4, y5, _, h4, h5, rfl, by clear q1 h4 e q2 h5 r2 q3; omega, by clear q1 h4 e q2 h5 r1 q3; omega, by rw [q3]; clear q1 h4 e q2 h5 r1 q3; omega, ?_⟩
  rw [q3]; clear q1 h4 e q2 h5 r1 q3; omega
/-- What OnesCount64 reckons. -/
def c1 (x : Nat) : Nat := ((x / 2) &&& 6148914691236517205) + (x &&& 6148914691236517205)
def c2 (x : Nat) : Nat := ((x / 4) &&& 3689348814741910323) + (x &&& 3689348814741910323)
def c3 (x : Nat) : Nat := (x / 16 + x) &&& 1085102592571150095
theorem swar (x : Nat) (h : x < 18446744073709551616) : c1 x < 18446744073709551616 ∧ c2 (c1 x) + c2 (c1 x) / 16 < 18446744073709551616 ∧
    ∃ y4 y5 y6, c3 (c2 (c1 x)) + c3 (c2 (c1 x)) / 256 = y4 ∧ y4 + y4 / 65536 = y5 ∧ y5 + y5 / 4294967296 = y6 ∧ y4 < 9223372036854775808 ∧ y5 < 9223372036854775808 ∧ y6 < 9223372036854775808 ∧ y6 % 128 = popN x := by
  obtain ⟨a0, a1, a2, a3, a4, a5, a6, a7, hx, h0, h1, h2, h3, h4, h5, h6, h7⟩ := of_bytes x h
  have hall : ∀ b ∈ [a0, a1, a2, a3, a4, a5, a6, a7], b < 256 := by
    intro b hb
    simp only [List.mem_cons, List.not_mem_nil, or_false] at hb
    omega
  have e1 : c1 x = dg ([a0, a1, a2, a3, a4, a5, a6, a7].map p1) := by
    rw [hx, c1, step12 1 85 2 6148914691236517205 (by decide) (by decide) rfl _ (by simp [dg]) hall]; rfl
  have hall1 : ∀ b ∈ [a0, a1, a2, a3, a4, a5, a6, a7].map p1, b < 256 := by
    intro b hb
    obtain ⟨c, hc, rfl⟩ := List.mem_map.1 hb
    exact p1_lt ⟨c, hall c hc⟩
  have e2 : c2 (c1 x) = dg (([a0, a1, a2, a3, a4, a5, a6, a7].map p1).map p2) := by
    rw [e1, c2, step12 2 51 4 3689348814741910323 (by decide) (by decide) rfl _ (by simp [dg]) hall1]; rfl
  have hall2 : ∀ b ∈ ([a0, a1, a2, a3, a4, a5, a6, a7].map p1).map p2, b < 256 ∧ b / 16 ≤ 4 ∧ b % 16 ≤ 4 := by
    intro b hb
    obtain ⟨d, hd, rfl⟩ := List.mem_map.1 hb
    obtain ⟨c, hc, rfl⟩ := List.mem_map.1 hd
    exact p2_lt ⟨c, hall c hc⟩
  have e3 : c3 (c2 (c1 x)) = dg ((([a0, a1, a2, a3, a4, a5, a6, a7].map p1).map p2).map p3) := by
    rw [e2, c3, step3 1085102592571150095 _ (by simp [dg]) hall2]
  have hp : popN x = p3 (p2 (p1 a0)) + (p3 (p2 (p1 a1)) + (p3 (p2 (p1 a2)) + (p3 (p2 (p1 a3)) + (p3 (p2 (p1 a4)) + (p3 (p2 (p1 a5)) + (p3 (p2 (p1 a6)) + p3 (p2 (p1 a7)))))))) := by
    rw [popN, pop_range, hx, p3_eq ⟨a0, h0⟩, p3_eq ⟨a1, h1⟩, p3_eq ⟨a2, h2⟩, p3_eq ⟨a3, h3⟩, p3_eq ⟨a4, h4⟩, p3_eq ⟨a5, h5⟩, p3_eq ⟨a6, h6⟩, p3_eq ⟨a7, h7⟩]
    simp only [dg]
    rw [pop_byte 56 _ _ h0, pop_byte 48 _ _ h1, pop_byte 40 _ _ h2, pop_byte 32 _ _ h3, pop_byte 24 _ _ h4, pop_byte 16 _ _ h5, pop_byte 8 _ _ h6, pop_byte 0 _ _ h7]
    rfl
  have l1 : c1 x ≤ 18446744073709551615 := by
    rw [e1]
    exact Nat.le_trans (dg_le 255 _ (fun b hb => Nat.le_of_lt_succ (hall1 b hb))) (by simp [dg])
  have l2 : c2 (c1 x) ≤ 4919131752989213764 := by
    rw [e2]
    refine Nat.le_trans (dg_le 68 _ (fun b hb => ?_)) (by simp [dg])
    have := hall2 b hb
    omega
  have e4 := tail8 (p3_le ⟨a0, h0⟩) (p3_le ⟨a1, h1⟩) (p3_le ⟨a2, h2⟩) (p3_le ⟨a3, h3⟩) (p3_le ⟨a4, h4⟩) (p3_le ⟨a5, h5⟩) (p3_le ⟨a6, h6⟩) (p3_le ⟨a7, h7⟩) (y := c3 (c2 (c1 x))) (by rw [e3]; simp only [List.map_cons, List.map_nil, dg]; rfl)
  obtain ⟨y4, y5, y6, k1, k2, k3, k4, k5, k6, k7⟩ := e4
  exact ⟨by omega, by omega, y4, y5, y6, k1, k2, k3, k4, k5, k6, by rw [k7, hp]; simp only [Nat.add_assoc]⟩
end Go.Proofs.YtklijaahbahcoaaDoor
/-
  Numbers of 64 bits as natural numbers; walks of math/bits.
-/
namespace Go.Proofs.YtklijaahbahcoaaDoor
set_option maxRecDepth 100000
open Go.RowKit
section
variable {P : Program} {N : Nat} {fr : Fr} {w : World} {ty t t' : TypeId} {x y : Operand} {p q : Int} {a b : Nat}
--@ rule binOp p o_andN
theorem o_andN (a b : Nat) (hx : fr.ev x = some (.int .u64 p)) (hy : fr.ev y = some (.int .u64 q)) (hp : p = (a : Int)) (hq : q = (b : Int)) (ha : a < 18446744073709551616) (hb : b < 18446744073709551616) : OpV P N fr w (.binOp .and t x y t') ty (.int .u64 ((a &&& b : Nat) : Int)) w := by
  subst hp; subst hq
  exact o_asi (o_and hx hy) (bits_and_u64_nat a b ha hb)
--@ rule binOp p o_orN
theorem o_orN (a b : Nat) (hx : fr.ev x = some (.int .u64 p)) (hy : fr.ev y = some (.int .u64 q)) (hp : p = (a : Int)) (hq : q = (b : Int)) (ha : a < 18446744073709551616) (hb : b < 18446744073709551616) : OpV P N fr w (.binOp .or t x y t') ty (.int .u64 ((a ||| b : Nat) : Int)) w := by
  subst hp; subst hq
  exact o_asi (o_or hx hy) (bits_or_u64_nat a b ha hb)
/-- What of a's bits b has not. -/
def andNotN (a b : Nat) : Nat := ((BitVec.ofNat 64 a) &&& ~~~(BitVec.ofNat 64 b)).toNat
theorem andNotN_lt (a b : Nat) : andNotN a b < 2 ^ 64 := BitVec.isLt _
theorem andNotN_bit {a b j : Nat} (hj : j < 64) : (andNotN a b).testBit j = (a.testBit j && !b.testBit j) := by
  rw [andNotN, BitVec.toNat_and, Nat.testBit_and, BitVec.testBit_toNat, BitVec.testBit_toNat, BitVec.getLsbD_not, BitVec.getLsbD_ofNat, BitVec.getLsbD_ofNat]
  simp [hj]
--@ rule binOp p o_andNotN
theorem o_andNotN (a b : Nat) (hx : fr.ev x = some (.int .u64 p)) (hy : fr.ev y = some (.int .u64 q)) (hp : p = (a : Int)) (hq : q = (b : Int)) : OpV P N fr w (.binOp .andNot t x y t') ty (.int .u64 ((andNotN a b : Nat) : Int)) w := by
  subst hp; subst hq
  refine o_asi (k := .u64) (a := bits .andNot .u64 (a : Int) (b : Int)) (o_bin hx hy eqg_int (by simp [go_sem])) ?_
  show IntKind.u64.wrap (((BitVec.ofInt 64 (a : Int) &&& ~~~(BitVec.ofInt 64 (b : Int))).toNat : Nat) : Int) = _
  rw [BitVec.ofInt_natCast, BitVec.ofInt_natCast, IntKind.wrap_u64]
  have := andNotN_lt a b
  unfold andNotN at this ⊢
  omega
--@ rule binOp p o_addN
theorem o_addN (a b : Nat) (hx : fr.ev x = some (.int .u64 p)) (hy : fr.ev y = some (.int .u64 q)) (hp : p = (a : Int)) (hq : q = (b : Int)) (h : a + b < 18446744073709551616) : OpV P N fr w (.binOp .add t x y t') ty (.int .u64 ((a + b : Nat) : Int)) w := by
  subst hp; subst hq
  exact o_asi (o_addw hx hy) (by rw [IntKind.wrap_u64]; omega)
--@ rule binOp p o_subN
theorem o_subN (a b : Nat) (hx : fr.ev x = some (.int .u64 p)) (hy : fr.ev y = some (.int .u64 q)) (hp : p = (a : Int)) (hq : q = (b : Int)) (h : b ≤ a) (ha : a < 18446744073709551616) : OpV P N fr w (.binOp .sub t x y t') ty (.int .u64 ((a - b : Nat) : Int)) w := by
  subst hp; subst hq
  exact o_asi (o_subw hx hy) (by rw [IntKind.wrap_u64]; omega)
theorem bits_and_i64_nat (a b : Nat) (ha : a < 9223372036854775808) (hb : b < 9223372036854775808) : bits .and .i64 (a : Int) (b : Int) = ((a &&& b : Nat) : Int) := by
  have hx : a &&& b < 2 ^ 63 := Nat.and_lt_two_pow _ (by omega)
  have h1 : (BitVec.ofInt 64 (a : Int)).toNat = a := by
    rw [BitVec.ofInt_natCast, BitVec.toNat_ofNat]; exact Nat.mod_eq_of_lt (by omega)
  have h2 : (BitVec.ofInt 64 (b : Int)).toNat = b := by
    rw [BitVec.ofInt_natCast, BitVec.toNat_ofNat]; exact Nat.mod_eq_of_lt (by omega)
  show IntKind.i64.wrap ((BitVec.ofInt 64 (a : Int) &&& BitVec.ofInt 64 (b : Int)).toNat : Int) = _
  rw [BitVec.toNat_and, h1, h2, IntKind.wrap_i64]
  omega
/-- -a -/
theorem o_negN (a : Nat) (hx : fr.ev x = some (.int .u64 p)) (hp : p = (a : Int)) (h0 : 0 < a) (ha : a < 18446744073709551616) : OpV P N fr w (.unOp .neg t x) ty (.int .u64 ((18446744073709551616 - a : Nat) : Int)) w := fun c hc o ho _ => by
  subst hp
  have e : IntKind.u64.wrap (-(a : Int)) = ((18446744073709551616 - a : Nat) : Int) := by rw [IntKind.wrap_u64]; omega
  rw [← e]
  simp [execOp, ho, hc.ev hx, Op.unary, Op.intArith]
theorem o_mulN (a b : Nat) (hx : fr.ev x = some (.int .u64 p)) (hy : fr.ev y = some (.int .u64 q)) (hp : p = (a : Int)) (hq : q = (b : Int)) : OpV P N fr w (.binOp .mul t x y t') ty (.int .u64 ((a * b % 18446744073709551616 : Nat) : Int)) w := by
  subst hp; subst hq
  exact o_asi (o_mulw hx hy) (by rw [IntKind.wrap_u64]; simp)
theorem o_shrN {n m : Nat} {k' : IntKind} (hx : fr.ev x = some (.int .u64 p)) (hy : fr.ev y = some (.int k' q)) (hp : p = (a : Int)) (hq : q = (n : Int)) (hn : n < 64) (hm : 2 ^ n = m) : OpV P N fr w (.binOp .shr t x y t') ty (.int .u64 ((a / m : Nat) : Int)) w := by
  subst hp; subst hq; subst hm
  exact o_asi (o_shr hx hy (by omega)) (by rw [show min ((n : Int)).toNat IntKind.u64.bits = n by show min _ 64 = _; omega]; simp)
/-- 1 << n -/
theorem o_shl1N {n : Nat} {k' : IntKind} (hx : fr.ev x = some (.int .u64 1)) (hy : fr.ev y = some (.int k' q)) (hq : q = (n : Int)) (hn : n < 64) : OpV P N fr w (.binOp .shl t x y t') ty (.int .u64 ((2 ^ n : Nat) : Int)) w := by
  subst hq
  refine o_asi (o_shl hx hy (by omega)) ?_
  rw [show min ((n : Int)).toNat IntKind.u64.bits = n by show min _ 64 = _; omega, IntKind.wrap_u64]
  have h : 2 ^ n < 18446744073709551616 := Nat.pow_lt_pow_right (a := 2) (by decide) hn
  have e : (1 : Int) * 2 ^ n = ((2 ^ n : Nat) : Int) := by simp
  rw [e]
  generalize 2 ^ n = z at h ⊢
  omega
theorem o_notN (a : Nat) (hx : fr.ev x = some (.int .u64 p)) (hp : p = (a : Int)) (ha : a < 18446744073709551616) : OpV P N fr w (.unOp .xor t x) ty (.int .u64 ((2 ^ 64 - 1 - a : Nat) : Int)) w := by
  subst hp
  have e : a = (UInt64.ofNat a).toNat := by rw [UInt64.toNat_ofNat_of_lt' ha]
  rw [e] at hx
  refine o_asi (o_notU hx) ?_
  rw [UInt64.toNat_not, UInt64.toNat_ofNat_of_lt' ha]
end
/-- The table of math/bits, in its block. -/
abbrev tabL : By := [0, 1, 56, 2, 57, 49, 28, 3, 61, 58, 42, 50, 38, 29, 17, 4, 62, 47, 59, 36, 45, 43, 51, 22, 53, 39, 33, 30, 24, 18, 12, 5, 63, 55, 48, 27, 60, 41, 37, 16, 46, 35, 44, 21, 52, 32, 23, 11, 54, 26, 40, 15, 34, 20, 31, 10, 25, 14, 19, 9, 13, 8, 7, 6]
def TabAt0 (w : World) (g : Nat) : Prop := RdB w g (g + 1) (some ⟨g, 0, none⟩) tabL
section
variable {w w' : World} {g lo hi : Nat} {row : Option Nat}
theorem TabAt0.u (h : TabAt0 w g) (hb : Below w.heap.size w w') : TabAt0 w' g := RdB.u h hb
theorem TabAt0.d (h : TabAt0 w g) : TabAt0 w.drew g := RdB.d h
theorem TabAt0.c (h : TabAt0 w g) (hc : Chg lo hi w w') (ha : g < lo) : TabAt0 w' g := RdB.c h hc (.inl ha)
theorem TabAt0.k (h : TabAt0 w g) (hg : w.grownBy w' row) (ha : Ap row g (g + 1)) : TabAt0 w' g := RdB.k h hg ha
theorem tab_get : ∀ j : Fin 64, (tabL[j.val]'(j.isLt)).toNat = Lib.deBruijn64tab.getD j.val 0 := by decide +kernel
end
section
variable {P : Program} {N : Nat} {fr : Fr} {w : World} {ty t : TypeId} {x : Operand} {g j : Nat}
--@ rule load r o_ldTab
theorem o_ldTab (ha' : ∀ w, (isAgg t).run P w = .ok false w) (hx : fr.ev x = some (.pointer (some ⟨g, j, none⟩))) (hr : TabAt0 w g) (hj : j < tabL.length) : OpV P N fr w (.load t x) ty (.int .u8 (tabL[j].toNat : Int)) w :=
  o_loadB (A := some ⟨g, 0, none⟩) (j := j) ha' (by rw [hx]; simp [adr, add_plain]) hr.r hj
end
theorem C_OnesCount64 {x : Nat} (w : World) (hx : x < 18446744073709551616) :
    CallsR Tryd.prog 46 [.int .u64 (x : Int)] w fun v w' => v = .int .i64 (popN x : Nat) ∧ w' = w := by
  obtain ⟨h1, h2, y4, y5, y6, k1, k2, k3, k4, k5, k6, k7⟩ := swar x hx
  have hp := popN_le x
  obtain ⟨u1, e1⟩ : ∃ u, c1 x = u := ⟨_, rfl⟩
  rw [e1] at h1 h2 k1
  obtain ⟨u2, e2⟩ : ∃ u, c2 u1 = u := ⟨_, rfl⟩
  rw [e2] at h2 k1
  obtain ⟨u3, e3⟩ : ∃ u, c3 u2 = u := ⟨_, rfl⟩
  rw [e3] at k1
  have g1 : (x / 2 &&& 6148914691236517205) + (x &&& 6148914691236517205) = u1 := e1
  have g2 : (u1 / 4 &&& 3689348814741910323) + (u1 &&& 3689348814741910323) = u2 := e2
  have g3 : (u2 / 16 + u2) &&& 1085102592571150095 = u3 := e3
  refine callsR Tryd.func46 rfl rfl (by kernel_rfl) rfl ?_
  refine rk_seq ?_
  refine rk_region ?_
  refine wl_p (fun _ => o_assign rfl) ?_
  refine wl_nil ?_
  refine rk_seq ?_
  refine rk_region ?_
  refine wl_p (fun _ => o_move rfl) ?_
  refine wl_p (fun _ => o_shrN (n := 1) (m := 2) rfl rfl rfl rfl (by decide) rfl) ?_
  refine wl_p (fun _ => (o_andN (x / 2) (6148914691236517205) rfl rfl rfl (by omega) (by omega) (by omega))) ?_
  refine wl_p (fun _ => o_move rfl) ?_
  refine wl_p (fun _ => (o_andN (x) (6148914691236517205) rfl rfl rfl (by omega) (by omega) (by omega))) ?_
  refine wl_p (fun _ => (o_addN (x / 2 &&& 6148914691236517205) (x &&& 6148914691236517205) rfl rfl rfl rfl (by omega))) ?_
  refine wl_p (fun _ => o_assign rfl) ?_
  refine wl_nil ?_
  refine rk_seq ?_
  refine rk_region ?_
  refine wl_p (fun _ => o_move rfl) ?_
  rw [g1]
  refine wl_p (fun _ => o_shrN (n := 2) (m := 4) rfl rfl rfl rfl (by decide) rfl) ?_
  refine wl_p (fun _ => (o_andN (u1 / 4) (3689348814741910323) rfl rfl rfl (by omega) (by omega) (by omega))) ?_
  refine wl_p (fun _ => o_move rfl) ?_
  refine wl_p (fun _ => (o_andN (u1) (3689348814741910323) rfl rfl rfl (by omega) (by omega) (by omega))) ?_
  refine wl_p (fun _ => (o_addN (u1 / 4 &&& 3689348814741910323) (u1 &&& 3689348814741910323) rfl rfl rfl rfl (by omega))) ?_
  refine wl_p (fun _ => o_assign rfl) ?_
  refine wl_nil ?_
  refine rk_seq ?_
  refine rk_region ?_
  refine wl_p (fun _ => o_move rfl) ?_
  rw [g2]
  refine wl_p (fun _ => o_shrN (n := 4) (m := 16) rfl rfl rfl rfl (by decide) rfl) ?_
  refine wl_p (fun _ => o_move rfl) ?_
  refine wl_p (fun _ => (o_addN (u2 / 16) (u2) rfl rfl rfl rfl (by omega))) ?_
  refine wl_p (fun _ => (o_andN (u2 / 16 + u2) (1085102592571150095) rfl rfl rfl (by omega) (by omega) (by omega))) ?_
  refine wl_p (fun _ => o_assign rfl) ?_
  refine wl_nil ?_
  refine rk_seq ?_
  refine rk_region ?_
  refine wl_p (fun _ => o_move rfl) ?_
  refine wl_p (fun _ => o_move rfl) ?_
  rw [g3]
  refine wl_p (fun _ => o_shrN (n := 8) (m := 256) rfl rfl rfl rfl (by decide) rfl) ?_
  refine wl_p (fun _ => (o_addN (u3) (u3 / 256) rfl rfl rfl rfl (by omega))) ?_
  refine wl_p (fun _ => o_assign rfl) ?_
  refine wl_nil ?_
  refine rk_seq ?_
  refine rk_region ?_
  refine wl_p (fun _ => o_move rfl) ?_
  refine wl_p (fun _ => o_move rfl) ?_
  rw [k1]
  refine wl_p (fun _ => o_shrN (n := 16) (m := 65536) rfl rfl rfl rfl (by decide) rfl) ?_
  refine wl_p (fun _ => (o_addN (y4) (y4 / 65536) rfl rfl rfl rfl (by omega))) ?_
  refine wl_p (fun _ => o_assign rfl) ?_
  refine wl_nil ?_
  refine rk_seq ?_
  refine rk_region ?_
  refine wl_p (fun _ => o_move rfl) ?_
  refine wl_p (fun _ => o_move rfl) ?_
  rw [k2]
  refine wl_p (fun _ => o_shrN (n := 32) (m := 4294967296) rfl rfl rfl rfl (by decide) rfl) ?_
  refine wl_p (fun _ => (o_addN (y5) (y5 / 4294967296) rfl rfl rfl rfl (by omega))) ?_
  refine wl_p (fun _ => o_assign rfl) ?_
  refine wl_nil ?_
  refine rk_seq ?_
  refine rk_region ?_
  refine wl_p (fun _ => o_move rfl) ?_
  refine wl_p (fun _ => o_convi64 (src := 73) (dst := 3) Tryd.underlying73 Tryd.underlying3 rfl (by omega) (by omega)) ?_
  rw [k3]
  refine wl_p (fun _ => o_asi (o_and rfl rfl) (bits_and_i64_nat y6 127 k6 (by decide))) ?_
  rw [show (127 : Nat) = 2 ^ 7 - 1 from rfl, Nat.and_two_pow_sub_one_eq_mod, show y6 % 2 ^ 7 = popN x from k7]
  refine wl_p (fun _ => o_assign rfl) ?_
  refine wl_nil ?_
  refine ret1 rfl rfl ?_
  exact ⟨rfl, rfl⟩
theorem C_tz64 {x : Nat} (w : World) (hT : TabAt0 w 0) (hx : x < 18446744073709551616) :
    CallsR Tryd.prog 38 [.int .u64 (x : Int)] w fun v w' => v = .int .i64 (Lib.ctz 64 x : Nat) ∧ w' = w := by
  by_cases hx0 : x = 0
  · subst hx0
    refine callsR Tryd.func38 rfl rfl (by kernel_rfl) rfl ?_
    refine rk_seq ?_
    refine rk_region ?_
    refine wl_p (fun _ => o_assign rfl) ?_
    refine wl_nil ?_
    refine rk_seq ?_
    refine rk_seq ?_
    refine rk_region ?_
    refine wl_p (fun _ => o_move rfl) ?_
    refine wl_p (fun _ => o_eq rfl rfl) ?_
    refine wl_nil ?_
    refine rk_true rfl ?_
    refine rk_seq ?_
    refine rk_region ?_
    refine wl_p (fun _ => o_assign rfl) ?_
    refine wl_nil ?_
    refine ret1 rfl rfl ?_
    exact ⟨rfl, rfl⟩
  · obtain ⟨hlow, hk⟩ := Lib.lowest_bit 64 x hx0 hx
    obtain ⟨hi, htab⟩ := Lib.deBruijn64_at _ hk
    obtain ⟨k, hkk⟩ : ∃ k, Lib.ctz 64 x = k := ⟨_, rfl⟩
    rw [hkk] at hlow hk hi htab ⊢
    obtain ⟨z, hz⟩ : ∃ z, 2 ^ k = z := ⟨_, rfl⟩
    rw [hz] at hlow hi htab
    have hzl : z < 18446744073709551616 := by rw [← hz]; exact Nat.pow_lt_pow_right (a := 2) (by decide) hk
    obtain ⟨i, hii⟩ : ∃ i, z * 285870213051353865 % 18446744073709551616 / 288230376151711744 = i := ⟨_, rfl⟩
    rw [hii] at hi htab
    have hti := tab_get ⟨i, hi⟩
    rw [htab] at hti
    have hil : i < tabL.length := hi
    refine callsR Tryd.func38 rfl rfl (by kernel_rfl) rfl ?_
    refine rk_seq ?_
    refine rk_region ?_
    refine wl_p (fun _ => o_assign rfl) ?_
    refine wl_nil ?_
    refine rk_seq ?_
    refine rk_seq ?_
    refine rk_region ?_
    refine wl_p (fun _ => o_move rfl) ?_
    refine wl_p (fun _ => o_eq rfl rfl) ?_
    refine wl_nil ?_
    refine rk_if rfl (fun h4 => absurd h4 (by omega)) (fun h4 => ?_)
    refine rk_skip ?_
    refine rk_seq ?_
    refine rk_region ?_
    refine wl_p (fun _ => o_move rfl) ?_
    refine wl_p (fun _ => o_move rfl) ?_
    refine wl_p (fun _ => o_negN x rfl rfl (by omega) hx) ?_
    refine wl_p (fun _ => o_andN x (18446744073709551616 - x) rfl rfl rfl rfl hx (by omega)) ?_
    rw [show x &&& (18446744073709551616 - x) = z from hlow]
    refine wl_p (fun _ => o_mulN z 285870213051353865 rfl rfl rfl rfl) ?_
    refine wl_p (fun _ => o_shrN (n := 58) (m := 288230376151711744) rfl rfl rfl rfl (by decide) rfl) ?_
    rw [hii]
    refine wl_p (fun _ => (o_iaddrP (i) Tryd.underlying80 Tryd.sizeOf5 rfl rfl rfl (by omega))) ?_
    refine wl_r (o_ldTab Tryd.isAgg5 rfl hT (by omega)) ?_
    rw [hti]
    refine wl_p (fun _ => o_convi64 (src := 5) (dst := 3) Tryd.underlying5 Tryd.underlying3 rfl (by omega) (by omega)) ?_
    refine wl_p (fun _ => o_assign rfl) ?_
    refine wl_nil ?_
    refine ret1 rfl rfl ?_
    exact ⟨rfl, rfl⟩
end Go.Proofs.YtklijaahbahcoaaDoor
/-
  Literals of bytes that were strings. No function of the program is named here.
-/
namespace Go.Proofs.YtklijaahbahcoaaDoor
set_option maxRecDepth 100000
open Go.RowKit
section
variable {P : Program} {fn : Func} {F : Ending → World → Prop} {N : Nat} {ks : List K} {ops : Array Oper} {tg : Tags} {l : List Oper} {fr : Fr} {w : World} {ty ty2 t : TypeId} {pos pos2 : String} {aft aft2 : Array Edge} {gd gd2 : Option (Nat × Bool)} {d d2 n : Nat}
theorem rdT_mark (w : World) (bs : List UInt8) (fr : Nat × Nat) : RdT (w.alloc (.cells (B8 bs).toArray 5 fr)) (some ⟨w.heap.size, 0, none⟩) bs := by
  refine ⟨⟨by simp [B8_length], fun _ => ⟨w.heap.size, 0, rfl, fun j v hj => ?_⟩⟩, fun k hk => ?_⟩
  · rw [Nat.zero_add, World.cell?_alloc_mark]
    simpa using hj
  · obtain rfl : w.heap.size = k := by simpa [blk] using hk
    exact ⟨(B8 bs).toArray, fr, by show (w.heap.push _)[w.heap.size]? = _; simp⟩
--@ rule buildSlice l wl_litC
theorem wl_litC {ps : Array (Nat × Operand)} {xs : List Operand} {vs : List Value} (bs : List UInt8) (T : U8 P t) (hs : ∀ w, (sizeOf 5).run P w = .ok 1 w) (hz : ∀ w, (zeroValue 5).run P w = .ok (.int .u8 0) w) (hxs : ps.toList.map Prod.snd = xs) (hx : fr.evs xs = some vs) (hv : vs = B8 bs) (hn : bs.length = n) (hps : ps = ((List.range' 0 n).zip xs).toArray) (hm : Nat.ble bs.length 1000000 = true)
    (hk : ∀ A w', RdT w' A bs → Below w.heap.size w w' → WL P fn F N ks ops tg.tail.tail l ((d2, .slice A n n) :: (d, .slice A n n) :: fr) w')
    (ht : tg.loud = true := by rfl) (ht2 : tg.tail.loud = true := by rfl) (hg : onG ops fr gd = true := by rfl) (hg2 : ∀ u, onG ops ((d, u) :: fr) gd2 = true := by intro _; rfl) (hd : Nat.blt d N = true := by rfl) (hd2 : Nat.blt d2 N = true := by rfl) (hq : tg.tail.calm = false := by rfl) :
    WL P fn F N ks ops tg (⟨some d, .buildSlice t n ps, ty, pos, aft, gd⟩ :: ⟨some d2, .convert t t (.tmp d), ty2, pos2, aft2, gd2⟩ :: l) fr w := by
  subst hps; subst hv; subst hn
  have hm' : bs.length ≤ 1000000 := by simpa using hm
  have hr := run_lit (P := P) (w := w) T.ht hs hz rfl (B8 bs) (B8_oneCell _) (by rw [B8_length]; omega)
  rw [B8_length] at hr
  refine wl_v (o_lit hx hr) ?_ ht hg hd (.inr (grown_of_below (below_alloc w _) _))
  have hv : Fr.ev ((d, .slice (some ⟨w.heap.size, 0, none⟩) bs.length bs.length) :: fr) (.tmp d) = some (.slice (some ⟨w.heap.size, 0, none⟩) bs.length bs.length) := by simp [Fr.ev, Fr.get]
  refine wl_v (w' := w.alloc (.cells (B8 bs).toArray 5 ((B8 bs).toArray.size, (B8 bs).toArray.size + 1))) (fun a ha o ho _ => ?_) (hk _ _ (rdT_mark w bs _) (below_alloc w _)) ht2 (hg2 _) hd2 (.inl hq)
  have := Lib.run_convert_bytes_const (P := P) w t 5 (B8 bs).toArray bs.length bs.length T.ht T.hu
  simp [execOp, ho, ha.ev hv, this]
end
end Go.Proofs.YtklijaahbahcoaaDoor
/-
  Numbers in words of 64 bits, and roots: plain laws. No function of the program is named here.
-/
namespace Go.Proofs.YtklijaahbahcoaaDoor
set_option maxRecDepth 100000
/-! Numbers in words, the low one first. -/
def val : List Nat → Nat
  | [] => 0
  | a :: l => a + 18446744073709551616 * val l
def mulL : List Nat → Nat → Nat → List Nat
  | [], _, _ => []
  | a :: l, b, c => (a * b + c) % 18446744073709551616 :: mulL l b ((a * b + c) / 18446744073709551616)
def mulC : List Nat → Nat → Nat → Nat
  | [], _, c => c
  | a :: l, b, c => mulC l b ((a * b + c) / 18446744073709551616)
theorem mulL_append (a b : Nat) : ∀ (l : List Nat) (c : Nat), mulL (l ++ [a]) b c = mulL l b c ++ [(a * b + mulC l b c) % 18446744073709551616]
  | [], _ => rfl
  | x :: l, c => by simp only [List.cons_append, mulL, mulC, mulL_append a b l]
theorem mulC_append (a b : Nat) : ∀ (l : List Nat) (c : Nat), mulC (l ++ [a]) b c = (a * b + mulC l b c) / 18446744073709551616
  | [], _ => rfl
  | x :: l, c => by simp only [List.cons_append, mulC, mulC_append a b l]
theorem mulL_length (b : Nat) : ∀ (l : List Nat) (c : Nat), (mulL l b c).length = l.length
  | [], _ => rfl
  | x :: l, c => by simp only [mulL, List.length_cons, mulL_length b l]
theorem mulL_lt (b : Nat) : ∀ (l : List Nat) (c : Nat), ∀ x ∈ mulL l b c, x < 18446744073709551616
  | [], _, x, h => by cases h
  | a :: l, c, x, h => by
    rcases List.mem_cons.1 h with rfl | h
    · exact Nat.mod_lt _ (by decide)
    · exact mulL_lt b l _ x h
theorem mulC_lt (b : Nat) (hb : b < 18446744073709551616) : ∀ (l : List Nat) (c : Nat), (∀ x ∈ l, x < 18446744073709551616) → c < 18446744073709551616 → mulC l b c < 18446744073709551616
  | [], _, _, hc => hc
  | a :: l, c, hl, hc => by
    refine mulC_lt b hb l _ (fun x hx => hl x (by simp [hx])) ?_
    have ha := hl a (by simp)
    refine (Nat.div_lt_iff_lt_mul (by decide)).2 ?_
    have h1 : a * b ≤ (18446744073709551616 - 1) * (18446744073709551616 - 1) := Nat.mul_le_mul (by omega) (by omega)
    omega
theorem val_mulL (b : Nat) : ∀ (l : List Nat) (c : Nat), val (mulL l b c) + 18446744073709551616 ^ l.length * mulC l b c = val l * b + c
  | [], c => by simp [val, mulL, mulC]
  | a :: l, c => by
    have ih := val_mulL b l ((a * b + c) / 18446744073709551616)
    have h := Nat.div_add_mod (a * b + c) 18446744073709551616
    simp only [val, mulL, mulC, List.length_cons, Nat.pow_succ]
    have e1 : (a + 18446744073709551616 * val l) * b + c = (a * b + c) + 18446744073709551616 * (val l * b) := by
      rw [Nat.add_mul, Nat.mul_assoc]; omega
    have e2 : 18446744073709551616 ^ l.length * 18446744073709551616 * mulC l b ((a * b + c) / 18446744073709551616) = 18446744073709551616 * (18446744073709551616 ^ l.length * mulC l b ((a * b + c) / 18446744073709551616)) := by
      rw [Nat.mul_comm (18446744073709551616 ^ l.length) 18446744073709551616, Nat.mul_assoc]
    rw [e1, e2, Nat.add_assoc, ← Nat.mul_add, ih, Nat.mul_add]
    omega
def addL : List Nat → List Nat → Nat → List Nat
  | a :: l, b :: r, c => (a + b + c) % 18446744073709551616 :: addL l r ((a + b + c) / 18446744073709551616)
  | _, _, _ => []
def addC : List Nat → List Nat → Nat → Nat
  | a :: l, b :: r, c => addC l r ((a + b + c) / 18446744073709551616)
  | _, _, c => c
theorem addL_append (a b : Nat) : ∀ (l r : List Nat) (c : Nat), l.length = r.length → addL (l ++ [a]) (r ++ [b]) c = addL l r c ++ [(a + b + addC l r c) % 18446744073709551616]
  | [], [], _, _ => rfl
  | x :: l, y :: r, c, h => by simp only [List.cons_append, addL, addC, addL_append a b l r _ (by simpa using h)]
theorem addC_append (a b : Nat) : ∀ (l r : List Nat) (c : Nat), l.length = r.length → addC (l ++ [a]) (r ++ [b]) c = (a + b + addC l r c) / 18446744073709551616
  | [], [], _, _ => rfl
  | x :: l, y :: r, c, h => by simp only [List.cons_append, addC, addC_append a b l r _ (by simpa using h)]
theorem addL_length : ∀ (l r : List Nat) (c : Nat), l.length = r.length → (addL l r c).length = l.length
  | [], [], _, _ => rfl
  | x :: l, y :: r, c, h => by simp only [addL, List.length_cons, addL_length l r _ (by simpa using h)]
theorem addL_lt : ∀ (l r : List Nat) (c : Nat), ∀ x ∈ addL l r c, x < 18446744073709551616
  | [], [], _, x, h => by cases h
  | [], _ :: _, _, x, h => by cases h
  | _ :: _, [], _, x, h => by cases h
  | a :: l, b :: r, c, x, h => by
    rcases List.mem_cons.1 h with rfl | h
    · exact Nat.mod_lt _ (by decide)
    · exact addL_lt l r _ x h
theorem addC_le : ∀ (l r : List Nat) (c : Nat), (∀ x ∈ l, x < 18446744073709551616) → (∀ x ∈ r, x < 18446744073709551616) → c ≤ 1 → addC l r c ≤ 1
  | [], [], _, _, _, hc => hc
  | [], _ :: _, _, _, _, hc => hc
  | _ :: _, [], _, _, _, hc => hc
  | a :: l, b :: r, c, hl, hr, hc => by
    refine addC_le l r _ (fun x hx => hl x (by simp [hx])) (fun x hx => hr x (by simp [hx])) ?_
    have ha := hl a (by simp)
    have hb := hr b (by simp)
    omega
theorem val_addL : ∀ (l r : List Nat) (c : Nat), l.length = r.length → val (addL l r c) + 18446744073709551616 ^ l.length * addC l r c = val l + val r + c
  | [], [], c, _ => by simp [val, addL, addC]
  | a :: l, b :: r, c, h => by
    have ih := val_addL l r ((a + b + c) / 18446744073709551616) (by simpa using h)
    have h := Nat.div_add_mod (a + b + c) 18446744073709551616
    simp only [val, addL, addC, List.length_cons, Nat.pow_succ]
    have e2 : 18446744073709551616 ^ l.length * 18446744073709551616 * addC l r ((a + b + c) / 18446744073709551616) = 18446744073709551616 * (18446744073709551616 ^ l.length * addC l r ((a + b + c) / 18446744073709551616)) := by
      rw [Nat.mul_comm (18446744073709551616 ^ l.length) 18446744073709551616, Nat.mul_assoc]
    rw [e2, Nat.add_assoc, ← Nat.mul_add, ih, Nat.mul_add, Nat.mul_add]
    omega
theorem val_lt : ∀ (l : List Nat), (∀ x ∈ l, x < 18446744073709551616) → val l < 18446744073709551616 ^ l.length
  | [], _ => by simp [val]
  | a :: l, h => by
    have ih := val_lt l (fun x hx => h x (by simp [hx]))
    have ha := h a (by simp)
    simp only [val, List.length_cons, Nat.pow_succ]
    have : 18446744073709551616 * (val l + 1) ≤ 18446744073709551616 * 18446744073709551616 ^ l.length := Nat.mul_le_mul_left _ ih
    rw [Nat.mul_comm (18446744073709551616 ^ l.length)]
    rw [Nat.mul_add] at this
    omega
theorem val_append : ∀ (l r : List Nat), val (l ++ r) = val l + 18446744073709551616 ^ l.length * val r
  | [], r => by simp [val]
  | a :: l, r => by
    simp only [List.cons_append, val, val_append l r, List.length_cons, Nat.pow_succ, Nat.mul_add]
    rw [Nat.mul_comm (18446744073709551616 ^ l.length) 18446744073709551616, Nat.mul_assoc]; omega
/-- What has room is not cut. -/
theorem val_mulL' {l : List Nat} {b c : Nat} (h : val l * b + c < 18446744073709551616 ^ l.length) : val (mulL l b c) = val l * b + c := by
  have h1 := val_mulL b l c
  rcases Nat.eq_zero_or_pos (mulC l b c) with h2 | h2
  · rw [h2] at h1; omega
  · have : 18446744073709551616 ^ l.length * 1 ≤ 18446744073709551616 ^ l.length * mulC l b c := Nat.mul_le_mul_left _ h2
    omega
theorem val_addL' {l r : List Nat} {c : Nat} (hl : l.length = r.length) (h : val l + val r + c < 18446744073709551616 ^ l.length) : val (addL l r c) = val l + val r + c := by
  have h1 := val_addL l r c hl
  rcases Nat.eq_zero_or_pos (addC l r c) with h2 | h2
  · rw [h2] at h1; omega
  · have : 18446744073709551616 ^ l.length * 1 ≤ 18446744073709551616 ^ l.length * addC l r c := Nat.mul_le_mul_left _ h2
    omega

/-! Roots, bit by bit. -/
def greedy (p : Nat → Bool) : Nat → Nat → Nat
  | 0, x => x
  | b + 1, x => greedy p b (if p (x + 2 ^ b) then x + 2 ^ b else x)
theorem greedy_spec {p : Nat → Bool} : ∀ (b x : Nat), p x = true → p (x + 2 ^ b) = false → p (greedy p b x) = true ∧ p (greedy p b x + 1) = false
  | 0, x, h1, h2 => ⟨h1, h2⟩
  | b + 1, x, h1, h2 => by
    unfold greedy
    by_cases h : p (x + 2 ^ b) = true
    · rw [if_pos h]
      exact greedy_spec b _ h (by rw [Nat.add_assoc, ← Nat.two_mul, ← Nat.pow_succ']; exact h2)
    · rw [if_neg h]
      exact greedy_spec b _ h1 (by simpa using h)
theorem root_unique {p : Nat → Bool} (hd : ∀ a b, a ≤ b → p b = true → p a = true) {r s : Nat} (h1 : p r = true) (h2 : p (r + 1) = false) (h3 : p s = true) (h4 : p (s + 1) = false) : r = s := by
  rcases Nat.lt_trichotomy r s with h | h | h
  · rw [hd _ _ h h3] at h2; cases h2
  · exact h
  · rw [hd _ _ h h1] at h4; cases h4
/-- Not above n by 2^(64 k). -/
def rootP (n k x : Nat) : Bool := decide (x ^ k ≤ n * 18446744073709551616 ^ k)
theorem rootP_down (n k : Nat) : ∀ a b, a ≤ b → rootP n k b = true → rootP n k a = true := fun a b h hb => by
  simp only [rootP, decide_eq_true_eq] at hb ⊢
  exact Nat.le_trans (Nat.pow_le_pow_left h k) hb
theorem rootP_zero (n k : Nat) (hk : 0 < k) : rootP n k 0 = true := by
  simp [rootP, Nat.zero_pow hk]
theorem rootP_big (n k b : Nat) (hn : n < 4294967296) (hk : 2 ≤ k) (hb : 80 ≤ b) : rootP n k (0 + 2 ^ b) = false := by
  simp only [rootP, decide_eq_false_iff_not, Nat.not_le, Nat.zero_add]
  have h1 : (2 ^ 80) ^ k ≤ (2 ^ b) ^ k := Nat.pow_le_pow_left (Nat.pow_le_pow_right (by decide) hb) k
  have h2 : (2 ^ 80) ^ k = 18446744073709551616 ^ k * (2 ^ 16) ^ k := by rw [← Nat.mul_pow]
  have h3 : (2 ^ 16) ^ 2 ≤ (2 ^ 16) ^ k := Nat.pow_le_pow_right (by decide) hk
  have h4 : n * 18446744073709551616 ^ k < (2 ^ 16) ^ 2 * 18446744073709551616 ^ k := Nat.mul_lt_mul_of_pos_right (by omega) (Nat.pow_pos (by decide))
  have h5 : (2 ^ 16) ^ 2 * 18446744073709551616 ^ k ≤ 18446744073709551616 ^ k * (2 ^ 16) ^ k := by rw [Nat.mul_comm]; exact Nat.mul_le_mul_left _ h3
  omega
/-- The root, of as many bits as there are. -/
def root (n k : Nat) : Nat := greedy (rootP n k) 80 0
theorem root_spec {n k : Nat} (hn : n < 4294967296) (hk : 2 ≤ k) : (root n k) ^ k ≤ n * 18446744073709551616 ^ k ∧ n * 18446744073709551616 ^ k < (root n k + 1) ^ k := by
  have := greedy_spec 80 0 (rootP_zero n k (by omega)) (rootP_big n k 80 hn hk (by decide))
  simp only [rootP, decide_eq_true_eq, decide_eq_false_iff_not, Nat.not_le] at this
  exact this
theorem root_more {n k b : Nat} (hn : n < 4294967296) (hk : 2 ≤ k) (hb : 80 ≤ b) : greedy (rootP n k) b 0 = root n k := by
  have h1 := greedy_spec b 0 (rootP_zero n k (by omega)) (rootP_big n k b hn hk hb)
  have h2 := greedy_spec 80 0 (rootP_zero n k (by omega)) (rootP_big n k 80 hn hk (by decide))
  exact root_unique (rootP_down n k) h1.1 h1.2 h2.1 h2.2
end Go.Proofs.YtklijaahbahcoaaDoor
/-
  Walks of package sha: roots.
-/
namespace Go.Proofs.YtklijaahbahcoaaDoor
set_option maxRecDepth 100000
open Go.RowKit
section
variable {fn : Func} {N : Nat} {fr : Fr} {w : World} {ty : TypeId} {x y z : Operand} {ts : Array TypeId}
end
theorem C_Mul64 {x y : Nat} (w : World) (hx : x < 18446744073709551616) (hy : y < 18446744073709551616) : CallsR Tryd.prog 74 [.int .u64 (x : Int), .int .u64 (y : Int)] w fun v w' => v = .tuple #[.int .u64 ((x * y / 18446744073709551616 : Nat) : Int), .int .u64 ((x * y % 18446744073709551616 : Nat) : Int)] ∧ w' = w := by
  refine ⟨⟨_, Tryd.func74, rfl, by kernel_rfl⟩, ?_⟩
  refine (Tryd.bits_Mul64 x y hx hy w).mono ?_
  rintro e w' ⟨rfl, rfl⟩
  exact ⟨_, rfl, rfl, rfl⟩
def vN (l : List Nat) : List Value := l.map fun x : Nat => .int .u64 (x : Int)
section
variable {fn : Func} {F : Ending → World → Prop} {N : Nat} {ks : List K} {ops : Array Oper} {tg : Tags} {l : List Oper} {fr : Fr} {w : World} {ty t t' e e2 : TypeId} {z v : Value} {pos : String} {aft : Array Edge} {gd : Option (Nat × Bool)} {d n g i a : Nat} {x y : Operand} {P : Program}
theorem vN_length (l : List Nat) : (vN l).length = l.length := List.length_map ..
theorem vN_one (l : List Nat) : ∀ v ∈ vN l, v.oneCell' = true := fun v h => by
  obtain ⟨x, _, rfl⟩ := List.mem_map.1 h; rfl
--@ rule load r o_ldN
theorem o_ldN {c : List Nat} (ha' : ∀ w, (isAgg t).run P w = .ok false w) (hx : fr.ev x = some (.pointer (some ⟨g, i, none⟩))) (hB : Blk w g t' (vN c)) (hi : i < c.length) : OpV P N fr w (.load t x) ty (.int .u64 (c[i] : Int)) w :=
  o_loadb ha' hx hB (by unfold vN; rw [List.getElem?_map, List.getElem?_eq_getElem hi]; rfl)
--@ rule load r o_ldNa
theorem o_ldNa {c : List Nat} (ha' : ∀ w, (isAgg t).run P w = .ok true w) (hs : ∀ w, (sizeOf t).run P w = .ok n w) (hx : fr.ev x = some (.pointer (some ⟨g, 0, none⟩))) (hB : Blk w g t' (vN c)) (hn : c.length = n) : OpV P N fr w (.load t x) ty (.agg (vN c).toArray) w :=
  o_load_all ha' hs hx hB (by rw [vN_length, hn])
--@ rule store l wl_stN
theorem wl_stN {c : List Nat} (hs : ∀ w, (sizeOf t).run P w = .ok 1 w) (hx : fr.ev x = some (.pointer (some ⟨g, i, none⟩))) (hB : Blk w g t' (vN c)) (hy : fr.ev y = some (.int .u64 (a : Int))) (hi : i < c.length)
    (hk : ∀ w', Blk w' g t' (vN (c.set i a)) → Grew w w' t' (some g) → w'.heap.size = w.heap.size → WL P fn F N ks ops tg.tail l fr w') (ht : tg.loud = true := by rfl) (hg : onG ops fr gd = true := by rfl) (hq : tg.calm = false ∨ tg.rw.may (some g) := by exact .inl rfl) :
    WL P fn F N ks ops tg (⟨none, .store t x y, ty, pos, aft, gd⟩ :: l) fr w :=
  wl_storeg1 hs hx hy rfl hB (by rw [vN_length]; exact hi) (fun w' h1 h2 h3 => hk w' (by unfold vN at h1 ⊢; rw [List.map_set]; exact h1) h2 h3) ht hg hq
--@ rule store l wl_stNa
theorem wl_stNa {c q : List Nat} (hs : ∀ w, (sizeOf t).run P w = .ok n w) (hx : fr.ev x = some (.pointer (some ⟨g, 0, none⟩))) (hB : Blk w g t' (vN c)) (hy : fr.ev y = some (.agg (vN q).toArray)) (hq' : q.length = n) (hi : c.length = n)
    (hk : ∀ w', Blk w' g t' (vN q) → Grew w w' t' (some g) → w'.heap.size = w.heap.size → WL P fn F N ks ops tg.tail l fr w') (ht : tg.loud = true := by rfl) (hg : onG ops fr gd = true := by rfl) (hq : tg.calm = false ∨ tg.rw.may (some g) := by exact .inl rfl) :
    WL P fn F N ks ops tg (⟨none, .store t x y, ty, pos, aft, gd⟩ :: l) fr w :=
  wl_storega hs hx hy (by rw [vN_length, hq']) (vN_one q) hB (by rw [vN_length, hi]) hk ht hg hq
end
/-- Four words. -/
structure W4 (l : List Nat) : Prop where
  len : l.length = 4
  lt : ∀ x ∈ l, x < 18446744073709551616
theorem W4_times {l : List Nat} (hl : W4 l) (b s : Nat) (hs : s ≤ 1) : W4 (List.replicate s 0 ++ mulL (l.take (4 - s)) b 0) := by
  refine ⟨by simp only [List.length_append, List.length_replicate, mulL_length, List.length_take, hl.len]; omega, fun x hx => ?_⟩
  rcases List.mem_append.1 hx with h | h
  · rw [List.eq_of_mem_replicate h]; decide
  · exact mulL_lt _ _ _ x h
theorem W4_plus {l r : List Nat} (hl : W4 l) (hr : W4 r) : W4 (addL l r 0) := ⟨by rw [addL_length _ _ _ (by rw [hl.len, hr.len])]; exact hl.len, addL_lt _ _ _⟩
/-- One factor more. -/
def pstep (h low : Nat) (l : List Nat) : List Nat := addL (List.replicate 0 0 ++ mulL (l.take (4 - 0)) low 0) (List.replicate 1 0 ++ mulL (l.take (4 - 1)) h 0) 0
def pows (h low : Nat) : Nat → List Nat
  | 0 => [1, 0, 0, 0]
  | n + 1 => pstep h low (pows h low n)
theorem W4_pows (h low : Nat) : ∀ n, W4 (pows h low n)
  | 0 => ⟨rfl, fun x hx => by simp only [pows, List.mem_cons, List.not_mem_nil, or_false] at hx; omega⟩
  | n + 1 => W4_plus (W4_times (W4_pows h low n) _ _ (by decide)) (W4_times (W4_pows h low n) _ _ (by decide))
--@ side (W4_times (by assumption) _ _ (by omega))
theorem four {l : List Nat} (hl : W4 l) : ∃ a b c d, l = [a, b, c, d] ∧ a < 18446744073709551616 ∧ b < 18446744073709551616 ∧ c < 18446744073709551616 ∧ d < 18446744073709551616 := by
  obtain ⟨h1, h2⟩ := hl
  match l, h1 with
  | [a, b, c, d], _ => exact ⟨a, b, c, d, rfl, h2 a (by simp), h2 b (by simp), h2 c (by simp), h2 d (by simp)⟩
theorem atMost_high {l : List Nat} {n k : Nat} (hl : W4 l) (hn : n < 18446744073709551616) (h2 : 2 ≤ k) (h3 : k ≤ 3) {j : Nat} (hj : j < l.length) (hkj : k < j) (h0 : 0 < l[j]) : ¬ val l ≤ n * 18446744073709551616 ^ k := by
  obtain ⟨a, b, c, d, rfl, ha, hb, hc, hd⟩ := four hl
  simp at hj
  obtain ⟨rfl, rfl⟩ : j = 3 ∧ k = 2 := by omega
  simp only [List.getElem_cons_succ, List.getElem_cons_zero] at h0
  simp only [val]
  omega
theorem atMost_mid {l : List Nat} {n k : Nat} (hl : W4 l) (h2 : 2 ≤ k) (h3 : k ≤ 3) (hk : k < l.length) (hz : ∀ j (hj : j < l.length), k < j → l[j] = 0) (hne : l[k] ≠ n) : l[k] < n ↔ val l ≤ n * 18446744073709551616 ^ k := by
  obtain ⟨a, b, c, d, rfl, ha, hb, hc, hd⟩ := four hl
  have h3' := hz 3 (by simp)
  rcases (show k = 2 ∨ k = 3 by omega) with rfl | rfl
  · simp only [List.getElem_cons_succ, List.getElem_cons_zero] at h3' hne ⊢
    have := h3' (by omega)
    simp only [val]
    omega
  · simp only [List.getElem_cons_succ, List.getElem_cons_zero] at hne ⊢
    simp only [val]
    omega
theorem atMost_low {l : List Nat} {n k : Nat} (hl : W4 l) (h2 : 2 ≤ k) (h3 : k ≤ 3) {j : Nat} (hk : k < l.length) (hj : j < l.length) (hz : ∀ j (hj : j < l.length), k < j → l[j] = 0) (he : l[k] = n) (hjk : j < k) (h0 : 0 < l[j]) : ¬ val l ≤ n * 18446744073709551616 ^ k := by
  obtain ⟨a, b, c, d, rfl, ha, hb, hc, hd⟩ := four hl
  have h3' := hz 3 (by simp)
  rcases (show k = 2 ∨ k = 3 by omega) with rfl | rfl
  · rcases (show j = 0 ∨ j = 1 by omega) with rfl | rfl <;>
    · simp only [List.getElem_cons_succ, List.getElem_cons_zero] at h3' he h0
      simp only [val]
      omega
  · rcases (show j = 0 ∨ j = 1 ∨ j = 2 by omega) with rfl | rfl | rfl <;>
    · simp only [List.getElem_cons_succ, List.getElem_cons_zero] at he h0
      simp only [val]
      omega
theorem atMost_eq {l : List Nat} {n k : Nat} (hl : W4 l) (h2 : 2 ≤ k) (h3 : k ≤ 3) (hk : k < l.length) (hz : ∀ j (hj : j < l.length), k < j → l[j] = 0) (he : l[k] = n) (hlow : ∀ j (hj : j < l.length), j < k → l[j] = 0) : val l ≤ n * 18446744073709551616 ^ k := by
  obtain ⟨a, b, c, d, rfl, ha, hb, hc, hd⟩ := four hl
  have h3' := hz 3 (by simp)
  have h0 := hlow 0 (by simp)
  have h1 := hlow 1 (by simp)
  have h2' := hlow 2 (by simp)
  simp only [List.getElem_cons_succ, List.getElem_cons_zero] at h0 h1 h2' h3'
  rcases (show k = 2 ∨ k = 3 by omega) with rfl | rfl
  · simp only [List.getElem_cons_succ, List.getElem_cons_zero] at he
    simp only [val]
    omega
  · simp only [List.getElem_cons_succ, List.getElem_cons_zero] at he
    simp only [val]
    omega
/-! The powers, as numbers. -/
theorem val_pows {h low k : Nat} (hh : h < 65536) (hl : low < 18446744073709551616) (hk : k ≤ 3) : val (pows h low k) = (h * 18446744073709551616 + low) ^ k := by
  have hx : h * 18446744073709551616 + low < 2 ^ 80 := by omega
  suffices ∀ i, i ≤ k → val (pows h low i) = (h * 18446744073709551616 + low) ^ i from this k (Nat.le_refl _)
  intro i hi
  induction i with
  | zero => simp [pows, val]
  | succ i ih =>
    have ih := ih (by omega)
    obtain ⟨a, b, c, d, he, ha, hb, hc, hd⟩ := four (W4_pows h low i)
    have hle : (h * 18446744073709551616 + low) ^ i ≤ (2 ^ 80) ^ 2 := Nat.le_trans (Nat.pow_le_pow_left (by omega) i) (Nat.pow_le_pow_right (by decide) (by omega))
    have hd0 : d = 0 := by
      rw [he] at ih; simp only [val] at ih; omega
    have hv : val [a, b, c, d] = (h * 18446744073709551616 + low) ^ i := by rw [← he]; exact ih
    have hv3 : val [a, b, c] = (h * 18446744073709551616 + low) ^ i := by rw [← hv, hd0]; simp [val]
    have hb1 : val [a, b, c, d] * low ≤ (2 ^ 80) ^ 2 * 18446744073709551616 := by rw [hv]; exact Nat.mul_le_mul hle (by omega)
    have hb2 : val [a, b, c] * h ≤ (2 ^ 80) ^ 2 * 65536 := by rw [hv3]; exact Nat.mul_le_mul hle (by omega)
    have e1 : val (mulL [a, b, c, d] low 0) = val [a, b, c, d] * low := by
      rw [val_mulL' (by show _ < 18446744073709551616 ^ 4; omega)]; omega
    have e2 : val (mulL [a, b, c] h 0) = val [a, b, c] * h := by
      rw [val_mulL' (by show _ < 18446744073709551616 ^ 3; omega)]; omega
    show val (pstep h low (pows h low i)) = _
    unfold pstep
    rw [he]
    show val (addL ([] ++ mulL [a, b, c, d] low 0) ([0] ++ mulL [a, b, c] h 0) 0) = _
    have e3 : val ([0] ++ mulL [a, b, c] h 0) = 18446744073709551616 * (val [a, b, c] * h) := by
      rw [val_append, e2]; simp [val]
    have e4 : val ([] ++ mulL [a, b, c, d] low 0) = val [a, b, c, d] * low := e1
    rw [val_addL' (by simp [mulL_length]) (by rw [e3, e4]; show _ < 18446744073709551616 ^ 4; omega), e3, e4, hv, hv3, Nat.pow_succ, Nat.mul_add]
    rw [Nat.add_zero, Nat.add_comm, Nat.mul_comm h 18446744073709551616, Nat.mul_left_comm]
theorem low_bit {x b : Nat} (h : x % 2 ^ (b + 1) = 0) : x ||| 2 ^ b = x + 2 ^ b := by
  obtain ⟨q, rfl⟩ := Nat.dvd_of_mod_eq_zero h
  exact (Nat.two_pow_add_eq_or_of_lt (Nat.pow_lt_pow_right (by decide) (by omega)) q).symm
theorem or_bit {x b : Nat} (hx : x < 18446744073709551616) (hb : b < 64) (h : x % 2 ^ (b + 1) = 0) (z : Int) (hz : z = b) : bits .or .u64 (x : Int) (IntKind.u64.wrap (1 * 2 ^ min z.toNat IntKind.u64.bits)) = ((x + 2 ^ b : Nat) : Int) := by
  subst hz
  have h1 : 2 ^ b < 18446744073709551616 := Nat.lt_of_lt_of_le (Nat.pow_lt_pow_right (by decide) hb) (by decide : 2 ^ 64 ≤ 18446744073709551616)
  have h2 : IntKind.u64.wrap (1 * 2 ^ min (b : Int).toNat IntKind.u64.bits) = ((2 ^ b : Nat) : Int) := by
    rw [show min (b : Int).toNat IntKind.u64.bits = b by show min (b : Int).toNat 64 = b; omega, IntKind.wrap_u64]
    have : ((2 : Int) ^ b) = ((2 ^ b : Nat) : Int) := by simp
    rw [this]; omega
  rw [h2, bits_or_u64_nat _ _ hx h1, low_bit h]
theorem top_room {x b : Nat} (hx : x < 2 ^ 80) (hb : b ≤ 80) (h : x % 2 ^ b = 0) : x + 2 ^ b ≤ 2 ^ 80 := by
  obtain ⟨q, rfl⟩ := Nat.dvd_of_mod_eq_zero h
  have e : (2 : Nat) ^ 80 = 2 ^ b * 2 ^ (80 - b) := by rw [← Nat.pow_add]; congr 1; omega
  rw [e] at hx ⊢
  have : q < 2 ^ (80 - b) := Nat.lt_of_mul_lt_mul_left hx
  calc 2 ^ b * q + 2 ^ b = 2 ^ b * (q + 1) := by rw [Nat.mul_add, Nat.mul_one]
    _ ≤ 2 ^ b * 2 ^ (80 - b) := Nat.mul_le_mul_left _ this
theorem mod_add {x b : Nat} (h : x % 2 ^ (b + 1) = 0) : (x + 2 ^ b) % 2 ^ b = 0 ∧ x % 2 ^ b = 0 := by
  obtain ⟨q, rfl⟩ := Nat.dvd_of_mod_eq_zero h
  have e : 2 ^ (b + 1) * q = 2 ^ b * (2 * q) := by rw [Nat.pow_succ, Nat.mul_assoc]
  rw [e, Nat.mul_mod_right]
  exact ⟨by rw [Nat.add_mod, Nat.mul_mod_right, Nat.mod_self]; rfl, rfl⟩
theorem parts_hi {x b : Nat} (hb : 64 ≤ b) (h : x % 2 ^ (b + 1) = 0) : x % 18446744073709551616 = 0 ∧ (x / 18446744073709551616) % 2 ^ (b - 64 + 1) = 0 ∧ (x + 2 ^ b) / 18446744073709551616 = x / 18446744073709551616 + 2 ^ (b - 64) ∧ (x + 2 ^ b) % 18446744073709551616 = x % 18446744073709551616 := by
  obtain ⟨q, rfl⟩ := Nat.dvd_of_mod_eq_zero h
  have e : (2 : Nat) ^ (b + 1) = 18446744073709551616 * 2 ^ (b - 64 + 1) := by
    rw [show 18446744073709551616 = 2 ^ 64 from rfl, ← Nat.pow_add]; congr 1; omega
  have e2 : (2 : Nat) ^ b = 18446744073709551616 * 2 ^ (b - 64) := by
    rw [show 18446744073709551616 = 2 ^ 64 from rfl, ← Nat.pow_add]; congr 1; omega
  rw [e, e2, Nat.mul_assoc]
  refine ⟨Nat.mul_mod_right _ _, by rw [Nat.mul_div_cancel_left _ (by decide)]; exact Nat.mul_mod_right _ _, ?_, ?_⟩
  · rw [← Nat.mul_add, Nat.mul_div_cancel_left _ (by decide), Nat.mul_div_cancel_left _ (by decide)]
  · rw [← Nat.mul_add, Nat.mul_mod_right, Nat.mul_mod_right]
theorem parts_lo {x b : Nat} (hb : b < 64) (h : x % 2 ^ (b + 1) = 0) : (x % 18446744073709551616) % 2 ^ (b + 1) = 0 ∧ (x + 2 ^ b) / 18446744073709551616 = x / 18446744073709551616 ∧ (x + 2 ^ b) % 18446744073709551616 = x % 18446744073709551616 + 2 ^ b := by
  have e : 18446744073709551616 = 2 ^ (b + 1) * 2 ^ (63 - b) := by
    rw [show 18446744073709551616 = 2 ^ 64 from rfl, ← Nat.pow_add]; congr 1; omega
  have h1 : (x % 18446744073709551616) % 2 ^ (b + 1) = 0 := by rw [e, Nat.mod_mul_right_mod]; exact h
  have h2 : x % 18446744073709551616 + 2 ^ b < 18446744073709551616 := by
    obtain ⟨q, hq⟩ := Nat.dvd_of_mod_eq_zero h1
    have h3 : x % 18446744073709551616 < 18446744073709551616 := Nat.mod_lt _ (by decide)
    have h4 : 2 ^ (b + 1) * q < 2 ^ (b + 1) * 2 ^ (63 - b) := by rw [← hq, ← e]; exact h3
    have h5 : q < 2 ^ (63 - b) := Nat.lt_of_mul_lt_mul_left h4
    have h6 : 2 ^ (b + 1) * (q + 1) ≤ 2 ^ (b + 1) * 2 ^ (63 - b) := Nat.mul_le_mul_left _ h5
    rw [← e, Nat.mul_add, ← hq] at h6
    have h7 : 2 ^ b < 2 ^ (b + 1) := Nat.pow_lt_pow_right (by decide) (by omega)
    omega
  refine ⟨h1, ?_, ?_⟩ <;> omega
end Go.Proofs.YtklijaahbahcoaaDoor
