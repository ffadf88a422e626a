/-
  Walks of the disk's methods that go through all that is cached, or all sectors.
-/
import Derived.Test.YthkfjoilhoemmaaMg3
import Derived.Lib.AppendStr
namespace Go.Proofs.Ythkfjoilhoemmaa
open Go.RowKit
theorem C_dSize {lo hi g : Nat} {S : List Sec} {C : List (Option Sec)} (w : World) (hd : DkAt w lo hi g S C) :
    CallsR Try.prog 21 [.pointer (some ⟨g, 0, none⟩)] w fun v w' => v = .int .i64 (S.length : Int) ∧ w' = w := by
  refine callsR Try.func21 rfl rfl (by kernel_rfl) rfl ?_
  refine rk_seq ?_
  refine rk_region ?_
  refine wl_p (fun _ => o_assign rfl) ?_
  refine wl_nil ?_
  refine rk_seq ?_
  refine rk_seq ?_
  refine rk_region ?_
  refine wl_p (fun _ => o_move rfl) ?_
  refine wl_call rfl (C_valid _ hd) ?_
  rintro v4 w4 ⟨rfl, rfl⟩
  refine wl_p (fun _ => o_not rfl) ?_
  refine wl_nil ?_
  refine rk_false rfl ?_
  refine rk_skip ?_
  refine rk_seq ?_
  refine rk_region ?_
  refine wl_p (fun _ => o_move rfl) ?_
  refine wl_p (fun _ => o_nil rfl) ?_
  refine wl_p (fun _ => o_faddr (s := 66) (i := 1) (off := 1) Try.underlying66 rfl Try.sizeOf59 rfl rfl rfl) ?_
  obtain ⟨A, c, b, f, fs, fm, h4, h5, h6⟩ := hd.ex
  refine wl_r (o_loadbg Try.isAgg59 rfl f (by rfl)) ?_
  refine wl_p (fun _ => o_len (t := 59) Try.underlying59 rfl) ?_
  refine wl_p (fun _ => o_assign rfl) ?_
  refine wl_nil ?_
  refine ret1 rfl rfl ?_
  exact ⟨rfl, rfl⟩
theorem C_dSizeNil (w : World) :
    CallsR Try.prog 21 [.pointer none] w fun v w' => v = .int .i64 0 ∧ w' = w := by
  refine callsR Try.func21 rfl rfl (by kernel_rfl) rfl ?_
  refine rk_seq ?_
  refine rk_region ?_
  refine wl_p (fun _ => o_assign rfl) ?_
  refine wl_nil ?_
  refine rk_seq ?_
  refine rk_seq ?_
  refine rk_region ?_
  refine wl_p (fun _ => o_move rfl) ?_
  refine wl_call rfl (C_validNil _) ?_
  rintro v4 w4 ⟨rfl, rfl⟩
  refine wl_p (fun _ => o_not rfl) ?_
  refine wl_nil ?_
  refine rk_true rfl ?_
  refine rk_seq ?_
  refine rk_region ?_
  refine wl_p (fun _ => o_assign rfl) ?_
  refine wl_nil ?_
  refine ret1 rfl rfl ?_
  exact ⟨rfl, rfl⟩
theorem C_dFlush {lo hi g : Nat} {S S0 : List Sec} {C C0 : List (Option Sec)} (w : World) (hd : DkAt w lo hi g S C) (hS0 : cur S C = S0) (hC0 : List.replicate S.length none = C0) :
    CallsR Try.prog 14 [.pointer (some ⟨g, 0, none⟩)] w fun v w' => v = .int .i64 0 ∧ DkAt w' lo hi g S0 C0 ∧ Chg lo hi w w' := by
  subst hS0; subst hC0
  refine callsR Try.func14 rfl rfl (by kernel_rfl) rfl ?_
  have hcg : Chg lo hi w w := Chg.refl
  have hhi := hd.hi
  refine rk_seq ?_
  refine rk_region ?_
  refine wl_p (fun _ => o_assign rfl) ?_
  refine wl_nil ?_
  refine rk_seq ?_
  refine rk_seq ?_
  refine rk_region ?_
  refine wl_p (fun _ => o_move rfl) ?_
  refine wl_call rfl (C_valid _ hd) ?_
  rintro v6 w6 ⟨rfl, rfl⟩
  refine wl_p (fun _ => o_not rfl) ?_
  refine wl_nil ?_
  refine rk_false rfl ?_
  refine rk_skip ?_
  refine rk_seq ?_
  refine rk_seq ?_
  refine rk_region ?_
  refine wl_p (fun _ => o_move rfl) ?_
  refine wl_call rfl (C_dCached _ hd (by rfl)) ?_
  rintro v9 w9 ⟨A9, ⟨c9, ⟨rfl, ⟨f9, b9⟩⟩⟩⟩
  have qf9 := f9.cap
  have s9 := b9.size
  replace hcg := hcg.thenB b9
  replace hd := hd.u b9
  refine wl_p (fun _ => o_len (t := 41) Try.underlying41 rfl) ?_
  refine wl_p (fun _ => o_move rfl) ?_
  refine wl_nil ?_
  refine rk_block ?_
  obtain ⟨A, c, b, f, fs, fm, h4, h5, h6⟩ := hd.ex
  have hg1 := hd.g1
  have hg2 := hd.g2
  have hle := hd.len
  have hn1 := hd.n1
  have hn2 := hd.n2
  have hcl := cnt_le C
  have hIl := ixz_len C
  have hsz0 := hcg.size
  clear hd
  refine rk_joinf (fun fb fr W => fr = [] ++ fb.drop 1 ∧ Blk W g 66 [.pointer (some ⟨g, 0, none⟩), .slice A S.length c, .map (some b)] ∧ OwnSec W lo hi A c (cur S C) ∧ MapS W b C ∧ Chg lo hi w6 W) ?_ (fun ks hj => ?_)
  rotate_left
  · refine rk_loopf (fun fb m fr W => ∃ (j : Nat) (v : Int) (S' : List Sec), fr = [(11, .int .i64 v)] ++ fb.drop 1 ∧ v = j ∧ j ≤ cnt C ∧ m = cnt C - j ∧ S' = crash S C (List.replicate j true) ∧ Blk W g 66 [.pointer (some ⟨g, 0, none⟩), .slice A S'.length c, .map (some b)] ∧ OwnSec W lo hi A c S' ∧ MapS W b C ∧ OwnZ W w6.heap.size w9.heap.size A9 c9 (ixz C) ∧ Chg lo hi w6 W) (n := cnt C) (Fr.le_of (by kernel_rfl) (by kernel_rfl) (by repeat' constructor)) ⟨0, _, S, rfl, rfl, by omega, rfl, by rw [List.replicate_zero, crash_nil], f, fs, fm, f9, hcg⟩ ?_
    clear f fs fm f9 hcg
    rintro m fr W ⟨j, v, S', rfl, rfl, hj', rfl, hS', f, fs, fm, f9, hcg⟩
    have hSl : S'.length = S.length := by rw [hS', crash_len]
    first | refine rk_frame (by simp only [List.cons_append, List.nil_append, List.drop_succ_cons, List.drop_zero]; rfl) ?_ | refine wl_frame (by simp only [List.cons_append, List.nil_append, List.drop_succ_cons, List.drop_zero]; rfl) ?_
    refine rk_seq ?_
    refine rk_region ?_
    refine wl_p (fun _ => o_lt rfl rfl) ?_
    refine wl_nil ?_
    refine rk_seq ?_
    refine rk_if rfl (fun h12 => ?_) (fun h12 => ?_)
    · have hjc : j < (cix C).length := by rw [cix_len]; omega
      have hji : j < (ixz C).length := by omega
      obtain ⟨i, hci⟩ : ∃ i, (cix C)[j] = i := ⟨_, rfl⟩
      have hIj : (ixz C)[j] = (i : Int) := by rw [← hci]; simp [ixz]
      have hiS : i < S'.length := by rw [hSl, ← hle, ← hci]; exact cix_lt C hjc
      obtain ⟨r, hr⟩ : ∃ r, cAt C (i : Int) = r := ⟨_, rfl⟩
      have hwf : (Lit.int .i64 (i : Int)).wf = true := nat_wf (by omega)
      refine rk_skip ?_
      refine rk_seq ?_
      refine rk_block ?_
      refine rk_seq ?_
      refine rk_region ?_
      refine wl_p (fun _ => (o_iaddrA1 (j) Try.underlying41 Try.sizeOf3 rfl rfl rfl (Reads.some_ f9.to_Reads (by decide) (by omega)) (by omega))) ?_
      refine wl_r (o_loadZ Try.isAgg3 rfl f9.to_Reads (by omega)) ?_
      refine wl_p (fun _ => o_assign rfl) ?_
      refine wl_nil ?_
      refine rk_draw (id := 6) (none) [0, 1, 2, 4, 0, 0, 32, 64, 128, 0, 768, 2047, 4095] [0, 1, 3, 7, 0, 0, 32, 96, 224, 0, 992, 2047, 4095] 4096 0 [(.p, 0), (.p, 1), (.p, 2), (.r, 3), (.p, 4), (.p, 5), (.p, 6), (.p, 7), (.r, 8), (.p, 9), (.r, 10), (.p, 11), (.l, 12)] (by kernel_rfl) (by kernel_rfl) (by kernel_rfl) (by kernel_rfl) (by kernel_rfl) ?_
      replace hcg := hcg.trans Chg.drew
      replace f9 := f9.d
      replace fm := fm.d
      replace fs := fs.d
      replace f := f.d
      refine wl_p (fun _ => o_move rfl) ?_
      refine wl_p (fun _ => o_nil rfl) ?_
      refine wl_p (fun _ => o_faddr (s := 66) (i := 1) (off := 1) Try.underlying66 rfl Try.sizeOf59 rfl rfl rfl) ?_
      refine wl_r (o_loadbg Try.isAgg59 rfl f (by rfl)) ?_
      refine wl_p (fun _ => o_move rfl) ?_
      refine wl_p (fun _ => o_move rfl) ?_
      refine wl_p (fun _ => o_nil rfl) ?_
      refine wl_p (fun _ => o_faddr (s := 66) (i := 2) (off := 2) Try.underlying66 rfl Try.sizeOf64 rfl rfl rfl) ?_
      refine wl_r (o_loadbg Try.isAgg64 rfl f (by rfl)) ?_
      refine wl_p (fun _ => o_move rfl) ?_
      rw [hIj]
      refine wl_r (o_lookS1 Try.underlying64 rfl rfl fm hr hwf) ?_
      refine wl_p (fun _ => (o_iaddrA (i) Try.underlying59 Try.sizeOf62 rfl rfl rfl (fs.some_ (by omega)) (by omega))) ?_
      refine wl_stSec rfl fs rfl (by omega) ?_
      rintro w f_1 g_1 b_1 e
      simp only [drew_size] at e
      have qf_1 := f_1.cap
      have s := g_1.size
      simp only [drew_size] at s
      replace hcg := hcg.trans ((Chg.of_g g_1.g f_1.rng).wide (by omega) (by omega))
      replace f := f.y g_1 (by decide)
      replace fm := fm.y g_1 (by decide)
      replace f9 := f9.y g_1 (by decide)
      clear fs
      refine wl_nild ?_
      refine rk_blk ?_
      refine rk_region ?_
      refine wl_p (fun _ => o_add rfl rfl (by omega) (by omega)) ?_
      refine wl_p (fun _ => o_move rfl) ?_
      refine wl_nil ?_
      have e : S'.set i (r.getD z256) = crash S C (List.replicate (j + 1) true) := by
        rw [crash_true hle hjc, ← hS', hci, hr]
      have e2 : (S'.set i (r.getD z256)).length = S'.length := List.length_set ..
      exact rk_againf (Fr.le_of (by kernel_rfl) (by kernel_rfl) (by repeat' constructor)) ⟨j + 1, (j : Int) + 1, S'.set i (r.getD z256), rfl, by omega, by omega, rfl, e, by rw [e2]; exact f, f_1, fm, f9, hcg⟩ (by omega)
    · refine rk_exit rfl ?_
      obtain rfl : j = cnt C := by omega
      rw [crash_all S C _ (Nat.le_refl _)] at hS'
      subst hS'
      rw [hSl] at f
      exact rk_tof hj (Fr.le_of (by kernel_rfl) (by kernel_rfl) (by repeat' constructor)) ⟨rfl, f, fs, fm, hcg⟩
  clear f fs fm f9 hcg
  rintro fr W ⟨rfl, f, fs, fm, hcg⟩
  first | refine rk_frame (by simp only [List.cons_append, List.nil_append, List.drop_succ_cons, List.drop_zero]; rfl) ?_ | refine wl_frame (by simp only [List.cons_append, List.nil_append, List.drop_succ_cons, List.drop_zero]; rfl) ?_
  refine rk_seq ?_
  refine rk_region ?_
  refine wl_p (fun _ => o_move rfl) ?_
  refine wl_p (fun _ => o_nil rfl) ?_
  refine wl_p (fun _ => o_faddr (s := 66) (i := 2) (off := 2) Try.underlying66 rfl Try.sizeOf64 rfl rfl rfl) ?_
  refine wl_r (o_loadbg Try.isAgg64 rfl f (by rfl)) ?_
  refine wl_clearM Try.underlying64 rfl fm ?_
  rintro w f_1 g_1 e
  have s := g_1.size
  replace hcg := hcg.trans (Chg.of_g1 g_1.g (by omega) (by omega))
  replace fs := fs.m g_1
  replace f := f.k g_1.g (ap_some (by omega))
  clear fm
  refine wl_nil ?_
  refine rk_seq ?_
  refine rk_region ?_
  refine wl_p (fun _ => o_assign rfl) ?_
  refine wl_nil ?_
  refine ret1 rfl rfl ?_
  rw [hle] at f_1
  exact ⟨rfl, ⟨⟨A, c, b, by rw [cur_len]; exact f, fs, f_1, h4, h5, h6⟩, hg1, hg2, by have := hcg.size; omega, by rw [List.length_replicate, cur_len], by rw [cur_len]; exact hn1, by rw [cur_len]; exact hn2⟩, hcg⟩
theorem C_dFlushNil (w : World) :
    CallsR Try.prog 14 [.pointer none] w fun v w' => v = .int .i64 1 ∧ Below w.heap.size w w' := by
  refine callsR Try.func14 rfl rfl (by kernel_rfl) rfl ?_
  have hw := Below.refl w.heap.size w
  refine rk_seq ?_
  refine rk_region ?_
  refine wl_p (fun _ => o_assign rfl) ?_
  refine wl_nil ?_
  refine rk_seq ?_
  refine rk_seq ?_
  refine rk_region ?_
  refine wl_p (fun _ => o_move rfl) ?_
  refine wl_call rfl (C_validNil _) ?_
  rintro v6 w6 ⟨rfl, rfl⟩
  refine wl_p (fun _ => o_not rfl) ?_
  refine wl_nil ?_
  refine rk_true rfl ?_
  refine rk_seq ?_
  refine rk_region ?_
  refine wl_p (fun _ => o_assign rfl) ?_
  refine wl_nil ?_
  refine ret1 rfl rfl ?_
  exact ⟨rfl, hw⟩
theorem C_dCrash {lo hi lo2 hi2 g n cp : Nat} {S S0 : List Sec} {C C0 : List (Option Sec)} {K : Option Addr} {kp : List Bool} (w : World) (hd : DkAt w lo hi g S C) (hk : RdBo w lo2 hi2 K kp) (hS0 : crash S C kp = S0) (hC0 : List.replicate S.length none = C0) (ha : hi2 ≤ lo ∨ hi ≤ lo2) (hn : n = kp.length) (hm : n ≤ 1000000) :
    CallsR Try.prog 16 [.pointer (some ⟨g, 0, none⟩), .slice K n cp] w fun v w' => v = .int .i64 0 ∧ DkAt w' lo hi g S0 C0 ∧ Chg lo hi w w' := by
  subst hn; subst hS0; subst hC0
  refine callsR Try.func16 rfl rfl (by kernel_rfl) rfl ?_
  have hcg : Chg lo hi w w := Chg.refl
  have hhi := hd.hi
  refine rk_seq ?_
  refine rk_region ?_
  refine wl_p (fun _ => o_assign rfl) ?_
  refine wl_nil ?_
  refine rk_seq ?_
  refine rk_seq ?_
  refine rk_region ?_
  refine wl_p (fun _ => o_move rfl) ?_
  refine wl_call rfl (C_valid _ hd) ?_
  rintro v8 w8 ⟨rfl, rfl⟩
  refine wl_p (fun _ => o_not rfl) ?_
  refine wl_nil ?_
  refine rk_false rfl ?_
  refine rk_skip ?_
  refine rk_seq ?_
  refine rk_seq ?_
  refine rk_region ?_
  refine wl_p (fun _ => o_move rfl) ?_
  refine wl_call rfl (C_dCached _ hd (by rfl)) ?_
  rintro v11 w11 ⟨A11, ⟨c11, ⟨rfl, ⟨f11, b11⟩⟩⟩⟩
  have qf11 := f11.cap
  have s11 := b11.size
  replace hcg := hcg.thenB b11
  replace hk := hk.u b11
  replace hd := hd.u b11
  refine wl_p (fun _ => o_len (t := 41) Try.underlying41 rfl) ?_
  refine wl_p (fun _ => o_move rfl) ?_
  refine wl_nil ?_
  refine rk_block ?_
  obtain ⟨A, c, b, f, fs, fm, h4, h5, h6⟩ := hd.ex
  have hg1 := hd.g1
  have hg2 := hd.g2
  have hle := hd.len
  have hn1 := hd.n1
  have hn2 := hd.n2
  have hcl := cnt_le C
  have hIl := ixz_len C
  have hsz0 := hcg.size
  clear hd
  refine rk_joinf (fun fb fr W => fr = [] ++ fb.drop 1 ∧ Blk W g 66 [.pointer (some ⟨g, 0, none⟩), .slice A S.length c, .map (some b)] ∧ OwnSec W lo hi A c (crash S C kp) ∧ MapS W b C ∧ Chg lo hi w8 W) ?_ (fun ks hj => ?_)
  rotate_left
  · refine rk_loopf (fun fb m fr W => ∃ (j : Nat) (v : Int) (S' : List Sec), fr = [(13, .int .i64 v)] ++ fb.drop 1 ∧ v = j ∧ j ≤ cnt C ∧ m = cnt C - j ∧ S' = crash S C (kp.take j) ∧ Blk W g 66 [.pointer (some ⟨g, 0, none⟩), .slice A S'.length c, .map (some b)] ∧ OwnSec W lo hi A c S' ∧ MapS W b C ∧ OwnZ W w8.heap.size w11.heap.size A11 c11 (ixz C) ∧ RdBo W lo2 hi2 K kp ∧ Chg lo hi w8 W) (n := cnt C) (Fr.le_of (by kernel_rfl) (by kernel_rfl) (by repeat' constructor)) ⟨0, _, S, rfl, rfl, by omega, rfl, by rw [List.take_zero, crash_nil], f, fs, fm, f11, hk, hcg⟩ ?_
    clear f fs fm f11 hcg hk
    rintro m fr W ⟨j, v, S', rfl, rfl, hj', rfl, hS', f, fs, fm, f11, hk, hcg⟩
    have hSl : S'.length = S.length := by rw [hS', crash_len]
    first | refine rk_frame (by simp only [List.cons_append, List.nil_append, List.drop_succ_cons, List.drop_zero]; rfl) ?_ | refine wl_frame (by simp only [List.cons_append, List.nil_append, List.drop_succ_cons, List.drop_zero]; rfl) ?_
    refine rk_seq ?_
    refine rk_region ?_
    refine wl_p (fun _ => o_lt rfl rfl) ?_
    refine wl_nil ?_
    refine rk_seq ?_
    refine rk_if rfl (fun h14 => ?_) (fun h14 => ?_)
    · have hjc : j < (cix C).length := by rw [cix_len]; omega
      have hji : j < (ixz C).length := by omega
      obtain ⟨i, hci⟩ : ∃ i, (cix C)[j] = i := ⟨_, rfl⟩
      have hIj : (ixz C)[j] = (i : Int) := by rw [← hci]; simp [ixz]
      have hiS : i < S'.length := by rw [hSl, ← hle, ← hci]; exact cix_lt C hjc
      obtain ⟨r, hr⟩ : ∃ r, cAt C (i : Int) = r := ⟨_, rfl⟩
      have hwf : (Lit.int .i64 (i : Int)).wf = true := nat_wf (by omega)
      by_cases hjk : j < kp.length
      · have hck := crash_keep (kp := kp) hle hjc hjk
        rw [← hS', hci, hr] at hck
        cases hkj : kp[j] with
        | true =>
          rw [hkj, if_pos rfl] at hck
          refine rk_skip ?_
          refine rk_seq ?_
          refine rk_block ?_
          refine rk_seq ?_
          refine rk_region ?_
          refine wl_p (fun _ => o_move rfl) ?_
          refine wl_p (fun _ => (o_iaddrA1 (j) Try.underlying41 Try.sizeOf3 rfl rfl rfl (Reads.some_ f11.to_Reads (by decide) (by omega)) (by omega))) ?_
          refine wl_r (o_loadZ Try.isAgg3 rfl f11.to_Reads (by omega)) ?_
          refine wl_p (fun _ => o_assign rfl) ?_
          refine wl_p (fun _ => o_assign rfl) ?_
          refine wl_nil ?_
          refine rk_seq ?_
          refine rk_region ?_
          refine wl_p (fun _ => o_move rfl) ?_
          refine wl_p (fun _ => o_move rfl) ?_
          refine wl_p (fun _ => o_len (t := 31) Try.underlying31 rfl) ?_
          refine wl_p (fun _ => o_lt rfl rfl) ?_
          refine wl_p (fun _ => o_move rfl) ?_
          refine wl_know 22 true rfl (decide_eq_true (by omega)) ?_
          refine wl_p (fun _ => o_move rfl) ?_
          refine wl_p (fun _ => o_move rfl) ?_
          refine wl_p (fun _ => (o_iaddrA1 (j) Try.underlying31 Try.sizeOf4 rfl rfl rfl (hk.some_ (by omega)) (by omega))) ?_
          refine wl_r (o_ldBo Try.isAgg4 rfl hk (by omega)) ?_
          refine wl_p (fun _ => o_pick_t rfl rfl) ?_
          refine wl_nil ?_
          rw [hkj]
          refine rk_true rfl ?_
          refine rk_draw (id := 7) (none) [0, 1, 2, 4, 0, 0, 32, 64, 128, 0, 768, 2047, 4095] [0, 1, 3, 7, 0, 0, 32, 96, 224, 0, 992, 2047, 4095] 4096 0 [(.p, 0), (.p, 1), (.p, 2), (.r, 3), (.p, 4), (.p, 5), (.p, 6), (.p, 7), (.r, 8), (.p, 9), (.r, 10), (.p, 11), (.l, 12)] (by kernel_rfl) (by kernel_rfl) (by kernel_rfl) (by kernel_rfl) (by kernel_rfl) ?_
          replace hcg := hcg.trans Chg.drew
          replace hk := hk.d
          replace f11 := f11.d
          replace fm := fm.d
          replace fs := fs.d
          replace f := f.d
          refine wl_p (fun _ => o_move rfl) ?_
          refine wl_p (fun _ => o_nil rfl) ?_
          refine wl_p (fun _ => o_faddr (s := 66) (i := 1) (off := 1) Try.underlying66 rfl Try.sizeOf59 rfl rfl rfl) ?_
          refine wl_r (o_loadbg Try.isAgg59 rfl f (by rfl)) ?_
          refine wl_p (fun _ => o_move rfl) ?_
          refine wl_p (fun _ => o_move rfl) ?_
          refine wl_p (fun _ => o_nil rfl) ?_
          refine wl_p (fun _ => o_faddr (s := 66) (i := 2) (off := 2) Try.underlying66 rfl Try.sizeOf64 rfl rfl rfl) ?_
          refine wl_r (o_loadbg Try.isAgg64 rfl f (by rfl)) ?_
          refine wl_p (fun _ => o_move rfl) ?_
          rw [hIj]
          refine wl_r (o_lookS1 Try.underlying64 rfl rfl fm hr hwf) ?_
          refine wl_p (fun _ => (o_iaddrA (i) Try.underlying59 Try.sizeOf62 rfl rfl rfl (fs.some_ (by omega)) (by omega))) ?_
          refine wl_stSec rfl fs rfl (by omega) ?_
          rintro w f_1 g_1 b_1 e
          simp only [drew_size] at e
          have qf_1 := f_1.cap
          have s := g_1.size
          simp only [drew_size] at s
          replace hcg := hcg.trans ((Chg.of_g g_1.g f_1.rng).wide (by omega) (by omega))
          replace f := f.y g_1 (by decide)
          replace fm := fm.y g_1 (by decide)
          replace f11 := f11.y g_1 (by decide)
          replace hk := hk.k g_1.g (f_1.ap (by omega))
          clear fs
          refine wl_nild ?_
          refine rk_blk ?_
          refine rk_region ?_
          refine wl_p (fun _ => o_add rfl rfl (by omega) (by omega)) ?_
          refine wl_p (fun _ => o_move rfl) ?_
          refine wl_nil ?_
          have e2 : (S'.set i (r.getD z256)).length = S'.length := List.length_set ..
          exact rk_againf (Fr.le_of (by kernel_rfl) (by kernel_rfl) (by repeat' constructor)) ⟨j + 1, (j : Int) + 1, S'.set i (r.getD z256), rfl, by omega, by omega, rfl, hck.symm, by rw [e2]; exact f, f_1, fm, f11, hk, hcg⟩ (by omega)
        | false =>
          rw [hkj, if_neg (by simp)] at hck
          refine rk_skip ?_
          refine rk_seq ?_
          refine rk_block ?_
          refine rk_seq ?_
          refine rk_region ?_
          refine wl_p (fun _ => o_move rfl) ?_
          refine wl_p (fun _ => (o_iaddrA1 (j) Try.underlying41 Try.sizeOf3 rfl rfl rfl (Reads.some_ f11.to_Reads (by decide) (by omega)) (by omega))) ?_
          refine wl_r (o_loadZ Try.isAgg3 rfl f11.to_Reads (by omega)) ?_
          refine wl_p (fun _ => o_assign rfl) ?_
          refine wl_p (fun _ => o_assign rfl) ?_
          refine wl_nil ?_
          refine rk_seq ?_
          refine rk_region ?_
          refine wl_p (fun _ => o_move rfl) ?_
          refine wl_p (fun _ => o_move rfl) ?_
          refine wl_p (fun _ => o_len (t := 31) Try.underlying31 rfl) ?_
          refine wl_p (fun _ => o_lt rfl rfl) ?_
          refine wl_p (fun _ => o_move rfl) ?_
          refine wl_know 22 true rfl (decide_eq_true (by omega)) ?_
          refine wl_p (fun _ => o_move rfl) ?_
          refine wl_p (fun _ => o_move rfl) ?_
          refine wl_p (fun _ => (o_iaddrA1 (j) Try.underlying31 Try.sizeOf4 rfl rfl rfl (hk.some_ (by omega)) (by omega))) ?_
          refine wl_r (o_ldBo Try.isAgg4 rfl hk (by omega)) ?_
          refine wl_p (fun _ => o_pick_t rfl rfl) ?_
          refine wl_nil ?_
          rw [hkj]
          refine rk_false rfl ?_
          refine rk_skip ?_
          refine rk_blk ?_
          refine rk_region ?_
          refine wl_p (fun _ => o_add rfl rfl (by omega) (by omega)) ?_
          refine wl_p (fun _ => o_move rfl) ?_
          refine wl_nil ?_
          exact rk_againf (Fr.le_of (by kernel_rfl) (by kernel_rfl) (by repeat' constructor)) ⟨j + 1, (j : Int) + 1, S', rfl, by omega, by omega, rfl, hck.symm, f, fs, fm, f11, hk, hcg⟩ (by omega)
      · have hck : crash S C (kp.take (j + 1)) = S' := by rw [hS', List.take_of_length_le (by omega), List.take_of_length_le (by omega)]
        refine rk_skip ?_
        refine rk_seq ?_
        refine rk_block ?_
        refine rk_seq ?_
        refine rk_region ?_
        refine wl_p (fun _ => o_move rfl) ?_
        refine wl_p (fun _ => (o_iaddrA1 (j) Try.underlying41 Try.sizeOf3 rfl rfl rfl (Reads.some_ f11.to_Reads (by decide) (by omega)) (by omega))) ?_
        refine wl_r (o_loadZ Try.isAgg3 rfl f11.to_Reads (by omega)) ?_
        refine wl_p (fun _ => o_assign rfl) ?_
        refine wl_p (fun _ => o_assign rfl) ?_
        refine wl_nil ?_
        refine rk_seq ?_
        refine rk_region ?_
        refine wl_p (fun _ => o_move rfl) ?_
        refine wl_p (fun _ => o_move rfl) ?_
        refine wl_p (fun _ => o_len (t := 31) Try.underlying31 rfl) ?_
        refine wl_p (fun _ => o_lt rfl rfl) ?_
        refine wl_p (fun _ => o_move rfl) ?_
        refine wl_know 22 false rfl (decide_eq_false (by omega)) ?_
        refine wl_off ?_
        refine wl_off ?_
        refine wl_off ?_
        refine wl_off ?_
        refine wl_p (fun _ => o_pick_f rfl rfl) ?_
        refine wl_nil ?_
        refine rk_false rfl ?_
        refine rk_skip ?_
        refine rk_blk ?_
        refine rk_region ?_
        refine wl_p (fun _ => o_add rfl rfl (by omega) (by omega)) ?_
        refine wl_p (fun _ => o_move rfl) ?_
        refine wl_nil ?_
        exact rk_againf (Fr.le_of (by kernel_rfl) (by kernel_rfl) (by repeat' constructor)) ⟨j + 1, (j : Int) + 1, S', rfl, by omega, by omega, rfl, hck.symm, f, fs, fm, f11, hk, hcg⟩ (by omega)
    · refine rk_exit rfl ?_
      obtain rfl : j = cnt C := by omega
      rw [crash_take S C _ _ (Nat.le_refl _)] at hS'
      subst hS'
      rw [hSl] at f
      exact rk_tof hj (Fr.le_of (by kernel_rfl) (by kernel_rfl) (by repeat' constructor)) ⟨rfl, f, fs, fm, hcg⟩
  clear f fs fm f11 hcg hk
  rintro fr W ⟨rfl, f, fs, fm, hcg⟩
  first | refine rk_frame (by simp only [List.cons_append, List.nil_append, List.drop_succ_cons, List.drop_zero]; rfl) ?_ | refine wl_frame (by simp only [List.cons_append, List.nil_append, List.drop_succ_cons, List.drop_zero]; rfl) ?_
  refine rk_seq ?_
  refine rk_region ?_
  refine wl_p (fun _ => o_move rfl) ?_
  refine wl_p (fun _ => o_nil rfl) ?_
  refine wl_p (fun _ => o_faddr (s := 66) (i := 2) (off := 2) Try.underlying66 rfl Try.sizeOf64 rfl rfl rfl) ?_
  refine wl_r (o_loadbg Try.isAgg64 rfl f (by rfl)) ?_
  refine wl_clearM Try.underlying64 rfl fm ?_
  rintro w f_1 g_1 e
  have s := g_1.size
  replace hcg := hcg.trans (Chg.of_g1 g_1.g (by omega) (by omega))
  replace fs := fs.m g_1
  replace f := f.k g_1.g (ap_some (by omega))
  clear fm
  refine wl_nil ?_
  refine rk_seq ?_
  refine rk_region ?_
  refine wl_p (fun _ => o_assign rfl) ?_
  refine wl_nil ?_
  refine ret1 rfl rfl ?_
  rw [hle] at f_1
  exact ⟨rfl, ⟨⟨A, c, b, by rw [crash_len]; exact f, fs, f_1, h4, h5, h6⟩, hg1, hg2, by have := hcg.size; omega, by rw [List.length_replicate, crash_len], by rw [crash_len]; exact hn1, by rw [crash_len]; exact hn2⟩, hcg⟩
theorem C_dCrashNil {K : Option Addr} {n c : Nat} (w : World) :
    CallsR Try.prog 16 [.pointer none, .slice K n c] w fun v w' => v = .int .i64 1 ∧ Below w.heap.size w w' := by
  refine callsR Try.func16 rfl rfl (by kernel_rfl) rfl ?_
  have hw := Below.refl w.heap.size w
  refine rk_seq ?_
  refine rk_region ?_
  refine wl_p (fun _ => o_assign rfl) ?_
  refine wl_nil ?_
  refine rk_seq ?_
  refine rk_seq ?_
  refine rk_region ?_
  refine wl_p (fun _ => o_move rfl) ?_
  refine wl_call rfl (C_validNil _) ?_
  rintro v8 w8 ⟨rfl, rfl⟩
  refine wl_p (fun _ => o_not rfl) ?_
  refine wl_nil ?_
  refine rk_true rfl ?_
  refine rk_seq ?_
  refine rk_region ?_
  refine wl_p (fun _ => o_assign rfl) ?_
  refine wl_nil ?_
  refine ret1 rfl rfl ?_
  exact ⟨rfl, hw⟩
theorem C_dImage {lo hi g : Nat} {S : List Sec} {C : List (Option Sec)} {r : By} (w : World) (hd : DkAt w lo hi g S C) (hr : img S = r) :
    CallsR Try.prog 18 [.pointer (some ⟨g, 0, none⟩)] w fun v w' => ∃ A c, v = .slice A r.length c ∧ OwnH w' w.heap.size w'.heap.size A c r ∧ Below w.heap.size w w' := by
  subst hr
  refine callsR Try.func18 rfl rfl (by kernel_rfl) rfl ?_
  have hw := Below.refl w.heap.size w
  refine rk_seq ?_
  refine rk_region ?_
  refine wl_p (fun _ => o_assign rfl) ?_
  refine wl_nil ?_
  refine rk_seq ?_
  refine rk_seq ?_
  refine rk_region ?_
  refine wl_p (fun _ => o_move rfl) ?_
  refine wl_call rfl (C_valid _ hd) ?_
  rintro v6 w6 ⟨rfl, rfl⟩
  refine wl_p (fun _ => o_not rfl) ?_
  refine wl_nil ?_
  refine rk_false rfl ?_
  refine rk_skip ?_
  refine rk_seq ?_
  refine rk_region ?_
  refine wl_p (fun _ => o_move rfl) ?_
  refine wl_p (fun _ => o_nil rfl) ?_
  refine wl_p (fun _ => o_faddr (s := 66) (i := 1) (off := 1) Try.underlying66 rfl Try.sizeOf59 rfl rfl rfl) ?_
  obtain ⟨A, c, b, f, fs, fm, h4, h5, h6⟩ := hd.ex
  have hn2 := hd.n2
  refine wl_r (o_loadbg Try.isAgg59 rfl f (by rfl)) ?_
  refine wl_p (fun _ => o_len (t := 59) Try.underlying59 rfl) ?_
  refine wl_p (fun _ => o_mul rfl rfl (by omega) (by omega)) ?_
  refine wl_mkB (S.length * 256) rfl rfl (by omega) (by omega) ?_
  rintro A14 w14 f14 b14
  have qf14 := f14.cap
  have s14 := b14.size
  replace hw := hw.trans (b14.mono hw.size)
  refine wl_p (fun _ => o_assign rfl) ?_
  refine wl_nil ?_
  refine rk_seq ?_
  refine rk_seq ?_
  refine rk_region ?_
  refine wl_p (fun _ => o_move rfl) ?_
  refine wl_p (fun _ => o_nil rfl) ?_
  refine wl_p (fun _ => o_faddr (s := 66) (i := 1) (off := 1) Try.underlying66 rfl Try.sizeOf59 rfl rfl rfl) ?_
  refine wl_r (o_loadbg Try.isAgg59 rfl (f.u hw) (by rfl)) ?_
  refine wl_p (fun _ => o_len (t := 59) Try.underlying59 rfl) ?_
  refine wl_p (fun _ => o_move rfl) ?_
  refine wl_nil ?_
  refine rk_block ?_
  refine rk_joinf (fun fb fr W => ∃ (A3 : Option Addr) (c3 : Nat), fr = [(3, .slice A3 (img S).length c3)] ++ fb.drop 7 ∧ OwnH W w6.heap.size W.heap.size A3 c3 (img S) ∧ Below w6.heap.size w6 W) ?_ (fun ks hj => ?_)
  rotate_left
  · refine rk_loopf (fun fb m fr W => ∃ (j : Nat) (v : Int) (A3 : Option Addr) (c3 : Nat) (I : By), fr = [(20, .int .i64 v), (19, .int .i64 (S.length : Int)), (3, .slice A3 I.length c3)] ++ fb.drop 7 ∧ v = j ∧ j ≤ S.length ∧ m = S.length - j ∧ I = img (S.take j) ∧ OwnH W w6.heap.size W.heap.size A3 c3 I ∧ w6.heap.size ≤ W.heap.size ∧ Below w6.heap.size w6 W) (n := S.length) (Fr.le_of (by kernel_rfl) (by kernel_rfl) (by repeat' constructor)) ⟨0, _, A14, _, [], rfl, rfl, by omega, rfl, rfl, f14, hw.size, hw⟩ ?_
    clear f14 hw
    rintro m fr W ⟨j, v, A3, c3, I, rfl, rfl, hj', rfl, hI, f3, hsW, hw⟩
    have hIl : I.length = j * 256 := by rw [hI, img_len, List.length_take]; congr 1; omega
    first | refine rk_frame (by simp only [List.cons_append, List.nil_append, List.drop_succ_cons, List.drop_zero]; rfl) ?_ | refine wl_frame (by simp only [List.cons_append, List.nil_append, List.drop_succ_cons, List.drop_zero]; rfl) ?_
    refine rk_seq ?_
    refine rk_region ?_
    refine wl_p (fun _ => o_lt rfl rfl) ?_
    refine wl_nil ?_
    refine rk_seq ?_
    refine rk_if rfl (fun h21 => ?_) (fun h21 => ?_)
    · have hjS : j < S.length := by omega
      have hal := S[j].2
      refine rk_skip ?_
      refine rk_seq ?_
      refine rk_block ?_
      refine rk_seq ?_
      refine rk_region ?_
      refine wl_p (fun _ => o_move rfl) ?_
      refine wl_p (fun _ => o_assign rfl) ?_
      refine wl_nil ?_
      refine rk_region ?_
      refine wl_p (fun _ => o_move rfl) ?_
      refine wl_p (fun _ => o_move rfl) ?_
      refine wl_p (fun _ => o_nil rfl) ?_
      refine wl_p (fun _ => o_faddr (s := 66) (i := 1) (off := 1) Try.underlying66 rfl Try.sizeOf59 rfl rfl rfl) ?_
      refine wl_r (o_loadbg Try.isAgg59 rfl (f.u hw) (by rfl)) ?_
      refine wl_p (fun _ => o_move rfl) ?_
      refine wl_p (fun _ => (o_iaddrA (j) Try.underlying59 Try.sizeOf62 rfl rfl rfl (fs.some_ (by omega)) (by omega))) ?_
      refine wl_slSec rfl fs hw (by omega) ?_
      rintro f30
      refine wl_appB Try.u8 rfl f3 rfl rfl (f30.u hw) rfl (by omega) hw.size ?_
      rintro A31 c31 w31 f31 g31 b31 i31
      have qf31 := f31.cap
      have s31 := g31.size
      replace hw := hw.trans (b31.mono (by omega))
      clear f3
      refine wl_p (fun _ => o_assign rfl) ?_
      refine wl_nil ?_
      refine rk_blk ?_
      refine rk_region ?_
      refine wl_p (fun _ => o_add rfl rfl (by omega) (by omega)) ?_
      refine wl_p (fun _ => o_move rfl) ?_
      refine wl_nil ?_
      have e : img (S.take (j + 1)) = I ++ S[j].1 := by rw [List.take_succ_eq_append_getElem hjS, img_snoc, ← hI]

      exact rk_againf (Fr.le_of (by kernel_rfl) (by kernel_rfl) (by repeat' constructor)) ⟨j + 1, (j : Int) + 1, A31, c31, I ++ S[j].1, rfl, by omega, by omega, rfl, e.symm, f31.base (by omega) (by omega), by omega, hw⟩ (by omega)
    · refine rk_exit rfl ?_
      obtain rfl : j = S.length := by omega
      rw [List.take_length] at hI
      subst hI
      exact rk_tof hj (Fr.le_of (by kernel_rfl) (by kernel_rfl) (by repeat' constructor)) ⟨A3, c3, rfl, f3, hw⟩
  clear f14 hw
  rintro fr W ⟨A3, c3, rfl, f3, hw⟩
  first | refine rk_frame (by simp only [List.cons_append, List.nil_append, List.drop_succ_cons, List.drop_zero]; rfl) ?_ | refine wl_frame (by simp only [List.cons_append, List.nil_append, List.drop_succ_cons, List.drop_zero]; rfl) ?_
  refine rk_seq ?_
  refine rk_region ?_
  refine wl_p (fun _ => o_move rfl) ?_
  refine wl_p (fun _ => o_assign rfl) ?_
  refine wl_nil ?_
  refine ret1 rfl rfl ?_
  exact ⟨A3, c3, rfl, f3, hw⟩
theorem C_dImageNil (w : World) :
    CallsR Try.prog 18 [.pointer none] w fun v w' => v = .slice none 0 0 ∧ Below w.heap.size w w' := by
  refine callsR Try.func18 rfl rfl (by kernel_rfl) rfl ?_
  have hw := Below.refl w.heap.size w
  refine rk_seq ?_
  refine rk_region ?_
  refine wl_p (fun _ => o_assign rfl) ?_
  refine wl_nil ?_
  refine rk_seq ?_
  refine rk_seq ?_
  refine rk_region ?_
  refine wl_p (fun _ => o_move rfl) ?_
  refine wl_call rfl (C_validNil _) ?_
  rintro v6 w6 ⟨rfl, rfl⟩
  refine wl_p (fun _ => o_not rfl) ?_
  refine wl_nil ?_
  refine rk_true rfl ?_
  refine rk_seq ?_
  refine rk_region ?_
  refine wl_p (fun _ => o_assign rfl) ?_
  refine wl_nil ?_
  refine ret1 rfl rfl ?_
  exact ⟨rfl, hw⟩
end Go.Proofs.Ythkfjoilhoemmaa
/-
  A copy of bytes: bytes.Clone.
-/
namespace Go.Proofs.Ythkfjoilhoemmaa
open Go.RowKit
section
variable {P : Program} {N : Nat} {fr : Fr} {w : World} {ty t t' : TypeId} {x y : Operand}
theorem run_equal_slice_nil {e : TypeId} (hu : P.underlying t = some (.slice e)) (A : Option Addr) (n c : Nat) : (Op.equal t (.slice A n c) (.slice none 0 0)).run P w = .ok A.isNone w := by
  have h : ∀ d : Nat, (Op.equalIn (d + 1) t (.slice A n c) (.slice none 0 0)).run P w = .ok A.isNone w := fun d => by
    cases A <;> simp [Op.equalIn, run_underlying hu]
  exact h 9999
--@ rule binOp p o_sleqN
theorem o_sleqN {e : TypeId} {A : Option Addr} {n c : Nat} (hu : P.underlying t = some (.slice e)) (hx : fr.ev x = some (.slice A n c)) (hy : fr.ev y = some (.slice none 0 0)) : OpV P N fr w (.binOp .eql t x y t') ty (.bool A.isNone) w :=
  o_bin hx hy (fun _ _ => by simp [go_sem]) (by simp only [binOp]; simp [run_equal_slice_nil hu])
end
end Go.Proofs.Ythkfjoilhoemmaa
/-
  append(x, make([]byte, m)...) on a row of bytes of the call's own. No function of the program is named here.
-/
namespace Go.Proofs.Ythkfjoilhoemmaa
open Go.RowKit
/-- The zero bytes, as a string. -/
def zeroS (m : Nat) : ByteArray := ⟨(List.replicate m (0 : UInt8)).toArray⟩
theorem zeroS_size (m : Nat) : (zeroS m).size = m := by
  show (List.replicate m (0 : UInt8)).toArray.size = m
  simp
theorem zeroS_cells (m : Nat) : Go.Lib.strCells (zeroS m) = B8 (List.replicate m 0) := by
  simp [Go.Lib.strCells, zeroS, B8]
section
variable {P : Program} (w : World)
theorem run_append_zs (t u ti ty e : TypeId) (i : TypeInfo) (ht : P.underlying t = some (.slice e)) (hti : P.underlying ti = some (.int .i64)) (hu : P.underlying u = some .string) (hi : P.info? e = some i) (hz : i.zero = some (.int .u8 0)) (hsize : i.size = 1) (hby : i.bytes = 1)
    (A : Option Addr) (n c m : Nat) (h0 : 0 < m) (h : n + m ≤ 4000000000) :
    (Builtin.append_ #[t, ti] ty #[.slice A n c, .int .i64 (m : Int)]).run P w = (Builtin.append_ #[t, u] ty #[.slice A n c, .string (zeroS m)]).run P w := by
  have hw : IntKind.i64.wrap (m : Int) = m := i64_in (by omega) (by omega)
  have hneg : ¬ ((m : Int) < 0) := by omega
  have hb1 : ¬ (281474976710656 < (m : Int)) := by omega
  have h63 : ¬ (9223372036854775807 < ((n : Int) + (m : Int))) := by omega
  have hz1 : (zeroS m).data.toList = List.replicate m 0 := rfl
  have hdl : List.take m (List.map (fun b : UInt8 => Value.int .u8 (b.toNat : Int)) (zeroS m).data.toList) = List.replicate m (Value.int .u8 0) := by
    rw [hz1, List.map_replicate, List.take_of_length_le (by rw [List.length_replicate]; exact Nat.le_refl _)]; rfl
  have hda : Array.map (fun b : UInt8 => Value.int .u8 (b.toNat : Int)) (zeroS m).data = Array.replicate m (Value.int .u8 0) := by
    apply Array.ext'
    rw [Array.toList_map, hz1, List.map_replicate, Array.toList_replicate]; rfl
  have hex : (Array.replicate m (Value.int .u8 0)).extract 0 m = Array.replicate m (Value.int .u8 0) := by
    apply Array.ext
    · simp
    · intro j h1 h2; simp
  have hzc : ∀ k, Builtin.zeroCells (Value.int .u8 0).cells k = (Array.replicate k (Value.int .u8 0)) := fun k => by
    show Builtin.zeroCells #[Value.int .u8 0] k = _
    apply Array.ext
    · simp [Builtin.zeroCells]
    · intro j h1 h2
      simp [Builtin.zeroCells, Nat.mod_one]
  have hm0 : m ≠ 0 := by omega
  by_cases hroom : n + m ≤ c
  · simp [Builtin.append_, run_underlying ht, run_underlying hti, run_underlying hu, sizeOf, typeInfo, zeroValue, hi, hz, hsize, hby, asInt, asIntOf, hw, hneg, hb1, Builtin.lenOf, zeroS_size, hroom, Builtin.firstCells, hdl, hm0, hzc]
  · have h48 := nextslicecap_le (need := n + m) (old := c) (by omega)
    have h48' : ¬ (281474976710656 < Builtin.nextslicecap (n + m) c) := by omega
    simp [Builtin.append_, run_underlying ht, run_underlying hti, run_underlying hu, sizeOf, typeInfo, zeroValue, hi, hz, hsize, hby, asInt, asIntOf, hw, hneg, hb1, h63, Builtin.lenOf, zeroS_size, hroom, Builtin.firstCells, hdl, hm0, hzc, h48', hda, hex]
end
theorem rd_upto {w : World} {A : Option Addr} {p : List UInt8} (h : Rd w A p) (k : Nat) : Rd w A (p.take k) := by
  refine ⟨by rw [B8_length, Nat.mul_one], fun hne => ?_⟩
  have hpne : B8 p ≠ [] := fun e => by
    apply hne
    have : p = [] := by cases p with | nil => rfl | cons a b => cases e
    rw [this]; rw [List.take_nil]; rfl
  obtain ⟨b, o, rfl, hc⟩ := h.2 hpne
  refine ⟨b, o, rfl, fun j u hj => hc j u ?_⟩
  unfold B8 at hj ⊢
  rw [List.getElem?_map] at hj ⊢
  rcases Nat.lt_or_ge j k with h3 | h3
  · rwa [List.getElem?_take_of_lt h3] at hj
  · rw [List.getElem?_eq_none (by rw [List.length_take]; omega)] at hj; cases hj
section
variable {P : Program} {fn : Func} {F : Ending → World → Prop} {N : Nat} {ks : List K} {ops : Array Oper} {tg : Tags} {l : List Oper} {fr : Fr} {w : World} {ty t ti : TypeId} {pos : String} {aft : Array Edge} {gd : Option (Nat × Bool)} {d n c lo hi : Nat} {x y : Operand} {A : Option Addr} {s : List UInt8}
/-- append(x, make([]byte, m)...): x the call's own. -/
theorem wl_appZs (T : U8 P t) {u : TypeId} (hti : P.underlying ti = some (.int .i64)) (hu : P.underlying u = some .string) (m : Nat) {M : Int} (hx : fr.ev x = some (.slice A n c)) (hown : OwnH w lo hi A c s) (hn : n = s.length) (hy : fr.ev y = some (.int .i64 M)) (hM : M = (m : Int)) (hm : 0 < m) (hlen : s.length + m ≤ 4000000000) (hB : lo ≤ w.heap.size)
    (h : ∀ A' c' w', OwnH w' lo w'.heap.size A' c' (s ++ List.replicate m 0) → Grew w w' 5 (blk A) → Below lo w w' → WL P fn F N ks ops tg.tail l ((d, .slice A' (s ++ List.replicate m 0).length c') :: fr) w')
    (ht : tg.loud = true := by rfl) (hg : onG ops fr gd = true := by rfl) (hd : Nat.blt d N = true := by rfl) (hq : tg.calm = false ∨ blk A = none ∨ blk A = tg.row := by exact .inl rfl) :
    WL P fn F N ks ops tg (⟨some d, .call { callee := .builtin .append, args := #[x, y], argTypes := #[t, ti] }, ty, pos, aft, gd⟩ :: l) fr w := by
  subst hn; subst hM
  obtain ⟨i, hi', hz, hs, hb⟩ := info_parts T.hi
  obtain ⟨v', w', hrun, h2, h3, _⟩ := Go.Lib.run_append_own_string (P := P) w lo t u ty 5 i T.ht hu hi' hz hs hb (.slice A s.length c) s.length (B8 s) hown.o (zeroS m) (by rw [zeroS_size]; simp only [maxLen]; omega) (by rw [zeroS_size]; omega) hB
  rw [← run_append_zs (P := P) w t u ti ty 5 i T.ht hti hu hi' hz hs hb A s.length c m hm (by omega)] at hrun
  obtain ⟨A', c', rfl⟩ := ownsRow_shape h2
  rw [blk_own] at h3
  rw [zeroS_size, zeroS_cells, ← B8_append] at h2
  have hl : (s ++ List.replicate m 0).length = s.length + m := by rw [List.length_append, List.length_replicate]
  rw [zeroS_size] at hrun
  rw [← hl] at h2 hrun
  have hlt : ∀ b, blk A = some b → lo ≤ b ∧ b < w.heap.size := RowH.lt hown
  have hO : OwnH w' lo w'.heap.size A' c' (s ++ List.replicate m 0) := ⟨h2, fun k hk => (World.ownsRow.lt h2 k (by rw [blk_own]; exact hk)).2⟩
  exact wl_v (o_builtin (xs := [x, y]) (vs := [.slice A s.length c, .int .i64 (m : Int)]) (by simp [Fr.evs, hx, hy]) (by simp [builtin, hrun]) (by simp)) (h A' c' w' hO ⟨h3, RowH.ty hown⟩ ((Below.refl lo w).grown h3 hB (fun b hb => (hlt b hb).1))) ht hg hd
    (hq.imp id fun e => e.elim (fun e => grown_wide (e ▸ h3) _) (fun e => e ▸ h3))
--@ rule slice l wl_slBB
theorem wl_slBB (T : U8 P t) {p : List UInt8} {z : Operand} {len cap : Nat} {kl kh : IntKind} {L H : Int} (lo hi : Nat) (hx : fr.ev x = some (.slice A len cap)) (hy : fr.ev y = some (.int kl L)) (hz : fr.ev z = some (.int kh H)) (hr : Rd w A p) (hlen : len = p.length) (hl : L = (lo : Int)) (hh : H = (hi : Int)) (h1 : lo ≤ hi) (h2 : hi ≤ p.length) (h3 : p.length ≤ cap)
    (hk : ∀ A' c', Rd w A' ((p.drop lo).take (hi - lo)) → hi - lo ≤ c' → c' ≤ cap → WL P fn F N ks ops tg.tail l ((d, .slice A' (hi - lo) c') :: fr) w) (hg : onG ops fr gd = true := by rfl) (hd : Nat.blt d N = true := by rfl) :
    WL P fn F N ks ops tg (⟨some d, .slice t x (some y) (some z) none, ty, pos, aft, gd⟩ :: l) fr w := by
  obtain ⟨i, hi', hz', hs, hb⟩ := info_parts T.hi
  refine wl_p (fun _ => o_slice (sz := 1) (lo := lo) (hi := hi) T.ht (fun w => by simp [sizeOf, typeInfo, hi', hs]) hx hy hz hl hh h1 (by omega)) (hk _ _ ?_ (by omega) (by omega)) hg hd
  have h4 := (hr.drop (k := lo) (cap := cap) (by omega) h3)
  have h5 : cutA A cap 1 lo = if cap = lo then A else A.map (·.add lo) := by unfold cutA; rw [Nat.mul_one]
  rw [h5]
  exact rd_upto h4 _
--@ rule slice l wl_slBl
theorem wl_slBl (T : U8 P t) {p : List UInt8} {len cap : Nat} {kl : IntKind} {L : Int} (lo : Nat) (hx : fr.ev x = some (.slice A len cap)) (hy : fr.ev y = some (.int kl L)) (hr : Rd w A p) (hlen : len = p.length) (hl : L = (lo : Int)) (h1 : lo ≤ p.length) (h3 : p.length ≤ cap)
    (hk : ∀ A' c', Rd w A' (p.drop lo) → p.length - lo ≤ c' → c' ≤ cap → WL P fn F N ks ops tg.tail l ((d, .slice A' (p.length - lo) c') :: fr) w) (hg : onG ops fr gd = true := by rfl) (hd : Nat.blt d N = true := by rfl) :
    WL P fn F N ks ops tg (⟨some d, .slice t x (some y) none none, ty, pos, aft, gd⟩ :: l) fr w := by
  subst hlen
  obtain ⟨i, hi', hz', hs, hb⟩ := info_parts T.hi
  refine wl_p (fun _ => o_slice_lo (sz := 1) (lo := lo) T.ht (fun w => by simp [sizeOf, typeInfo, hi', hs]) hx hy hl h1) (hk _ _ ?_ (by omega) (by omega)) hg hd
  have h4 := (hr.drop (k := lo) (cap := cap) (by omega) h3)
  have h5 : cutA A cap 1 lo = if cap = lo then A else A.map (·.add lo) := by unfold cutA; rw [Nat.mul_one]
  rw [h5]
  exact h4
--@ rule slice l wl_slBh
theorem wl_slBh (T : U8 P t) {p : List UInt8} {z : Operand} {len cap : Nat} {kh : IntKind} {H : Int} (hi : Nat) (hx : fr.ev x = some (.slice A len cap)) (hz : fr.ev z = some (.int kh H)) (hr : Rd w A p) (hlen : len = p.length) (hh : H = (hi : Int)) (h2 : hi ≤ p.length) (h3 : p.length ≤ cap)
    (hk : Rd w A (p.take hi) → WL P fn F N ks ops tg.tail l ((d, .slice A hi cap) :: fr) w) (hg : onG ops fr gd = true := by rfl) (hd : Nat.blt d N = true := by rfl) :
    WL P fn F N ks ops tg (⟨some d, .slice t x none (some z) none, ty, pos, aft, gd⟩ :: l) fr w := by
  obtain ⟨i, hi', hz', hs, hb⟩ := info_parts T.hi
  exact wl_p (fun _ => o_slice_hi (sz := 1) (hi := hi) T.ht (fun w => by simp [sizeOf, typeInfo, hi', hs]) hx hz hh (by omega)) (hk (rd_upto hr _)) hg hd
end
end Go.Proofs.Ythkfjoilhoemmaa
/-
  Walks: a disk's clone; a disk of an image.
-/
namespace Go.Proofs.Ythkfjoilhoemmaa
open Go.RowKit
theorem part_one {α : Type} {X : GoT α} {w : World} {M : List α} {ms : List Value} (h0 : 0 < X.sz) (hml : ms.length = M.length * X.sz) (r3 : ∀ i (h : i < M.length), X.T w (part ms X.sz i) M[i]) (h1 : ∀ w cs a, X.T w cs a → ∀ u ∈ cs, u.oneCell' = true) : ∀ u ∈ ms, u.oneCell' = true := fun u hu => by
  obtain ⟨i, hi, rfl⟩ := List.getElem_of_mem hu
  have hq : i / X.sz < M.length := (Nat.div_lt_iff_lt_mul h0).2 (by omega)
  refine h1 _ _ _ (r3 _ hq) _ (List.mem_of_getElem? (i := i % X.sz) ?_)
  rw [part_get (Nat.mod_lt _ h0), Nat.div_add_mod' i X.sz]
  exact List.getElem?_eq_getElem hi
section
variable {fn : Func} {F : Ending → World → Prop} {N : Nat} {ks : List K} {ops : Array Oper} {tg : Tags} {l : List Oper} {fr : Fr} {w w0 : World} {ty : TypeId} {pos : String} {aft : Array Edge} {gd : Option (Nat × Bool)} {d j q c2 lo hi lo2 hi2 : Nat} {x y : Operand} {A X : Option Addr} {M : List Sec}
--@ rule buildSlice l wl_litSec0
theorem wl_litSec0 {ps : Array (Nat × Operand)} (hps : ps = #[]) (hk : ∀ A w', OwnSec w' w.heap.size w'.heap.size A 0 [] → Below w.heap.size w w' → WL Try.prog fn F N ks ops tg.tail l ((d, .slice A 0 0) :: fr) w')
    (ht : tg.loud = true := by rfl) (hg : onG ops fr gd = true := by rfl) (hd : Nat.blt d N = true := by rfl) : WL Try.prog fn F N ks ops tg (⟨some d, .buildSlice 59 0 ps, ty, pos, aft, gd⟩ :: l) fr w := by
  subst hps
  exact wl_litS (X := gArr 256) (L := []) (xs := []) (vs := []) Try.rowSec Try.sizeOf62 Try.zeroSec rfl rfl rfl rfl rfl (fun i h => absurd h (Nat.not_lt_zero _)) rfl hk ht hg hd
--@ rule append l wl_appSec0
/-- append to nothing. -/
theorem wl_appSec0 (hx : fr.ev x = some (.slice A 0 0)) (hown : OwnSec w lo hi A 0 []) (hy : fr.ev y = some (.slice X j q)) (hr : OwnSec w0 lo2 hi2 X c2 M) (hb : Below w0.heap.size w0 w) (hj : j = M.length) (hlen : M.length ≤ 1000000) (hB : lo ≤ w.heap.size)
    (h : ∀ A' c' w', OwnSec w' lo w'.heap.size A' c' M → Below w.heap.size w w' → WL Try.prog fn F N ks ops tg.tail l ((d, .slice A' M.length c') :: fr) w')
    (ht : tg.loud = true := by rfl) (hg : onG ops fr gd = true := by rfl) (hd : Nat.blt d N = true := by rfl) :
    WL Try.prog fn F N ks ops tg (⟨some d, .call { callee := .builtin .append, args := #[x, y], argTypes := #[59, 59] }, ty, pos, aft, gd⟩ :: l) fr w := by
  subst hj
  obtain ⟨xs, g1, g2⟩ := hown
  obtain ⟨ms, r1, r2⟩ := hr.u hb
  have hx0 : xs = [] := List.length_eq_zero_iff.1 (by have := g1.rd.1; simpa using this)
  subst hx0
  exact wl_appR0 Try.rowSec hx g1 hy r1.rd (part_one (X := gArr 256) (by decide) r1.rd.1 r2 gSec_one) (by simp only [maxLen]; omega) (by omega) hB (fun A' c' w' k1 k2 => h A' c' w' ⟨ms, k1, fun i hi => r2 i hi⟩ k2) ht hg hd
end
theorem C_sClone {A : Option Addr} {S : List Sec} {n cp lo hi : Nat} (w : World) (hs : OwnSec w lo hi A cp S) (hn : n = S.length) (h1 : 1 ≤ S.length) (h2 : S.length ≤ 1000000) :
    CallsR Try.prog 34 [.slice A n cp] w fun v w' => ∃ A' c', v = .slice A' S.length c' ∧ OwnSec w' w.heap.size w'.heap.size A' c' S ∧ Below w.heap.size w w' := by
  subst hn
  have hA := hs.some_ (by omega)
  obtain ⟨ad, rfl⟩ : ∃ ad, A = some ad := ⟨_, hA⟩
  refine callsR Try.func34 rfl rfl (by kernel_rfl) rfl ?_
  have hw := Below.refl w.heap.size w
  refine rk_seq ?_
  refine rk_region ?_
  refine wl_p (fun _ => o_assign rfl) ?_
  refine wl_nil ?_
  refine rk_seq ?_
  refine rk_seq ?_
  refine rk_region ?_
  refine wl_p (fun _ => o_move rfl) ?_
  refine wl_p (fun _ => (o_sleqN Try.underlying59 rfl rfl)) ?_
  refine wl_nil ?_
  refine rk_false rfl ?_
  refine rk_skip ?_
  refine rk_seq ?_
  refine rk_region ?_
  refine wl_litSec0 rfl ?_
  rintro A5 w5 f5 b5
  have qf5 := f5.cap
  have s5 := b5.size
  replace hw := hw.trans (b5.mono hw.size)
  refine wl_p (fun _ => o_move rfl) ?_
  refine wl_appSec0 rfl f5 rfl hs hw rfl (by omega) hw.size ?_
  rintro A7 c7 w7 f7 b7
  have qf7 := f7.cap
  have s7 := b7.size
  replace hw := hw.trans (b7.mono hw.size)
  replace f5 := f5.u b7
  refine wl_p (fun _ => o_assign rfl) ?_
  refine wl_nil ?_
  refine ret1 rfl rfl ?_
  have hsz := hw.size
  exact ⟨A7, c7, rfl, f7.base (by omega) (by omega), hw⟩
/-- An iterator in block r goes through the map in block b; what is still to come. -/
def IterS (w : World) (bd r b : Nat) (C : List (Option Sec)) (lf : Int → Bool) (k : Nat) : Prop :=
  b ≠ bd ∧ ∃ D left, w.ranges (H := Unit) Try.prog 3 secElem b r (cnt C) D left k ∧ (∀ z, (Lit.int .i64 z).wf = true → Maps.has D (.int .i64 z) = (cAt C z).isSome ∧ ∀ s, cAt C z = some s → ∀ d, D.atKey (.int .i64 z) d = .lit (.string s.1)) ∧ ∀ z, (Lit.int .i64 z).wf = true → left (.int .i64 z) = lf z
section
variable {w w' : World} {bd r b k : Nat} {C : List (Option Sec)} {lf : Int → Bool}
theorem IterS.kept {row : Option Nat} (h : IterS w bd r b C lf k) (hg : w.grownBy w' row) (h1 : some b ≠ row) (h2 : some r ≠ row) : IterS w' bd r b C lf k := by
  obtain ⟨h0, D, left, h3, h4⟩ := h
  exact ⟨h0, D, left, h3.kept hg h1 h2, h4⟩
theorem IterS.u (h : IterS w bd r b C lf k) (hb : Below w.heap.size w w') : IterS w' bd r b C lf k := h.kept (row := none) (grownBy_of_below hb none) (by simp) (by simp)
theorem IterS.d (h : IterS w bd r b C lf k) : IterS w.drew bd r b C lf k := h.u (below_drew w)
theorem IterS.lt (h : IterS w bd r b C lf k) : r < w.heap.size := by obtain ⟨_, D, left, h3, h4⟩ := h; exact h3.lt
theorem IterS.objs (h : IterS w bd r b C lf k) : (∃ es c, w.heap[b]? = some (.map es c)) ∧ ∃ x y z u, w.heap[r]? = some (.mapIter x y z u) := by
  obtain ⟨_, D, left, ⟨es, clock, since, seen, c0, h1, _, _, _, h2, _⟩, _⟩ := h
  exact ⟨⟨_, _, h1⟩, _, _, _, _, h2⟩
theorem IterS.y {e : TypeId} {row : Option Nat} (h : IterS w bd r b C lf k) (hg : Grew w w' e row) (_ : 0 = 0) : IterS w' bd r b C lf k := by
  obtain ⟨⟨es, c, h1⟩, x, y, z, u, h2⟩ := h.objs
  refine h.kept hg.g (fun e => ?_) (fun e => ?_)
  · obtain ⟨cs, f, h3⟩ := hg.ty b e.symm
    rw [h1] at h3; cases h3
  · obtain ⟨cs, f, h3⟩ := hg.ty r e.symm
    rw [h2] at h3; cases h3
theorem IterS.m (h : IterS w bd r b C lf k) (hg : GrewM w w' bd) : IterS w' bd r b C lf k := by
  obtain ⟨_, x, y, z, u, h2⟩ := h.objs
  have h0 := h.1
  refine h.kept hg.g (fun e => h0 (by injection e)) (fun e => ?_)
  injection e with e
  subst e
  obtain ⟨_, _, h3⟩ := hg.m
  rw [h2] at h3; cases h3
end
section
variable {P : Program} {fn : Func} {F : Ending → World → Prop} {N : Nat} {ks : List K} {ops : Array Oper} {tg : Tags} {l : List Oper} {fr : Fr} {w : World} {ty t : TypeId} {pos : String} {aft : Array Edge} {gd : Option (Nat × Bool)} {d bd b r k : Nat} {x : Operand} {C : List (Option Sec)} {lf : Int → Bool}
theorem wl_rangeS (hu : Try.prog.underlying t = some (.map 3 62)) (hx : fr.ev x = some (.map (some b))) (hS : MapS w b C) (hne : b ≠ bd)
    (hk : ∀ r w', IterS w' bd r b C (fun z => (cAt C z).isSome) (cnt C) → Below w.heap.size w w' → w.heap.size ≤ r → r < w'.heap.size → WL Try.prog fn F N ks ops tg.tail l ((d, .pointer (some ⟨r, 0, none⟩)) :: fr) w')
    (ht : tg.loud = true := by rfl) (hg : onG ops fr gd = true := by rfl) (hd : Nat.blt d N = true := by rfl) : WL Try.prog fn F N ks ops tg (⟨some d, .range t x, ty, pos, aft, gd⟩ :: l) fr w := by
  obtain ⟨D, ho, hs, hD⟩ := hS
  obtain ⟨w', hrun, h1, h2, h3⟩ := ho.range Try.keyI hu
  have hb := below_of_grown_none h2
  rw [hs] at h1
  exact wl_v (w' := w') (fun a ha o ho' _ => by simp [execOp, ho', ha.ev hx, hrun]) (hk _ w' ⟨hne, D, _, h1, hD, fun z hz => (hD z hz).1⟩ hb (Nat.le_refl _) (by omega)) ht hg hd (.inr (grown_of_below hb _))
theorem wl_nextS (hx : fr.ev x = some (.pointer (some ⟨r, 0, none⟩))) (hI : IterS w bd r b C lf k) (hl : C.length ≤ 1000000)
    (h0 : (∀ z, (Lit.int .i64 z).wf = true → lf z = false) → WL Try.prog fn F N ks ops tg.tail l ((d, .tuple #[.bool false]) :: fr) w)
    (h1 : ∀ (i : Nat) (s : Sec) (w' : World) (k' : Nat), (hi : i < C.length) → C[i] = some s → lf i = true → IterS w' bd r b C (fun z => lf z && decide (z ≠ i)) k' → k' < k → w.grownBy w' (some r) → w'.heap.size = w.heap.size →
      (Instr.entry (.pointer (some ⟨r, 0, none⟩))).run Try.prog w' = .ok (.tuple #[.int .i64 (i : Int), vS s]) w' → WL Try.prog fn F N ks ops tg.tail l ((d, .tuple #[.bool true, .int .i64 (i : Int), vS s]) :: fr) w')
    (ht : tg.loud = true := by rfl) (hg : onG ops fr gd = true := by rfl) (hd : Nat.blt d N = true := by rfl) (hq : tg.calm = false := by rfl) : WL Try.prog fn F N ks ops tg (⟨some d, .next x false, ty, pos, aft, gd⟩ :: l) fr w :=
  fun a ha => left_loud ht fun K hK => by
    rw [if_pos (wanted_on (o := ⟨some d, .next x false, ty, pos, aft, gd⟩) ha hg)]
    obtain ⟨hne, D, left, h3, hD, hL⟩ := hI
    unfold Oper.wp
    rcases h3.next Try.keyI ty with ⟨_, hl0, hrun⟩ | ⟨key, v, kl, y, w', cnt', hkey, hlk, hv, hat, hrun, hrg, hlt, hgr, hsz, hen⟩
    · simp [execOp, ha.ev hx, hrun, Result.andThen]
      exact hK _ _ (.inl hq) (h0 (fun z hz => by rw [← hL z hz]; exact hl0 _) _ (ha.put hd _))
    · obtain ⟨z, rfl, rfl, hzw⟩ := Maps.keyOf_i64 Try.underlying3 hkey
      have hhas := (hD z hzw).1
      rw [Maps.has_true_of_atKey hat] at hhas
      obtain ⟨s, hs⟩ := Option.isSome_iff_exists.1 hhas.symm
      have h4 := (hD z hzw).2 s hs (.lit (.int .i64 0))
      rw [hat] at h4
      obtain rfl : v = vS s := secElem_lit (ps := y.2) (by rw [hv, ← h4])
      obtain ⟨i, hi, rfl, hci⟩ : ∃ i : Nat, ∃ hi : i < C.length, z = (i : Int) ∧ C[i] = some s := by
        unfold cAt at hs
        split at hs
        · cases hc : C[z.toNat]? with
          | none => rw [hc] at hs; cases hs
          | some c =>
            obtain ⟨h5, h6⟩ := List.getElem?_eq_some_iff.1 hc
            rw [hc] at hs
            exact ⟨z.toNat, h5, by omega, by rw [h6]; exact hs⟩
        · cases hs
      simp [execOp, ha.ev hx, hrun, Result.andThen]
      refine hK _ _ (.inl hq) (h1 i s w' cnt' hi hci (by rw [← hL _ hzw]; exact hlk) ⟨hne, D, _, hrg, hD, fun q hq' => ?_⟩ hlt hgr hsz hen _ (ha.put hd _))
      show (left (.int .i64 q) && !(Lit.int .i64 q).sameKey (.int .i64 (i : Int))) = _
      rw [hL q hq']
      by_cases e : q = (i : Int)
      · subst e; rw [WideAt.sameKey_self (Try.keyI.key hkey)]; simp
      · rw [Maps.sameKey_ne (fun h => e (by injection h))]; simp [e]
theorem o_ext10 {a : Value} (hx : fr.ev x = some (.tuple #[a])) : OpV Try.prog N fr w (.extract x 0) ty a w := fun a ha o ho _ => by simp [execOp, ho, ha.ev hx, Instr.extract]
theorem o_entryS {v : Value} (hx : fr.ev x = some (.pointer (some ⟨r, 0, none⟩))) (hen : (Instr.entry (.pointer (some ⟨r, 0, none⟩))).run Try.prog w = .ok v w) : OpV Try.prog N fr w (.entry x) ty v w := fun a ha o ho _ => by
  simp [execOp, ho, ha.ev hx, hen]
end
/-- What has come so far. -/
def gone (C : List (Option Sec)) (lf : Int → Bool) : List (Option Sec) := C.mapIdx fun i c => if lf i then none else c
theorem gone_len (C : List (Option Sec)) (lf : Int → Bool) : (gone C lf).length = C.length := by simp [gone]
theorem gone_all (C : List (Option Sec)) : gone C (fun z => (cAt C z).isSome) = List.replicate C.length none := by
  apply List.ext_getElem
  · simp [gone]
  · intro i h1 h2
    have hi : i < C.length := by simpa [gone] using h1
    simp only [gone, List.getElem_mapIdx, List.getElem_replicate]
    have e := cAt_nat C hi
    cases hc : C[i] with
    | none => simp
    | some s => rw [hc] at e; simp [e]
theorem gone_none (C : List (Option Sec)) {lf : Int → Bool} (h : ∀ i : Nat, i < C.length → lf i = false) : gone C lf = C := by
  apply List.ext_getElem
  · simp [gone]
  · intro i h1 h2
    have hi : i < C.length := by simpa [gone] using h1
    simp [gone, h i hi]
theorem gone_step (C : List (Option Sec)) (lf : Int → Bool) {i : Nat} {s : Sec} (hi : i < C.length) (hc : C[i] = some s) : (gone C lf).set i (some s) = gone C (fun z => lf z && decide (z ≠ i)) := by
  apply List.ext_getElem
  · simp [gone]
  · intro j h1 h2
    have hj : j < C.length := by simpa [gone] using h2
    rw [List.getElem_set]
    simp only [gone, List.getElem_mapIdx]
    by_cases e : i = j
    · subst e; rw [if_pos rfl]; simp [hc]
    · rw [if_neg e]
      have : (j : Int) ≠ (i : Int) := by omega
      simp [this]
theorem C_mCopy {bd bs n : Nat} {C : List (Option Sec)} (w : World) (hd : MapS w bd (List.replicate n none)) (hs : MapS w bs C) (hn : n = C.length) (hne : bd ≠ bs) (hl : C.length ≤ 1000000) :
    CallsR Try.prog 35 [.map (some bd), .map (some bs)] w fun v w' => v = .tuple #[] ∧ MapS w' bd C ∧ GrewM w w' bd := by
  subst hn
  refine callsR Try.func35 rfl rfl (by kernel_rfl) rfl ?_
  have hcg : Chg bd (bd + 1) w w := Chg.refl
  have hbd := hd.lt
  have hbs := hs.lt
  have hdm : ∃ es c, w.heap[bd]? = some (.map es c) := by obtain ⟨_, ⟨_, _, h4, _⟩, _⟩ := hd; exact ⟨_, _, h4⟩
  refine rk_seq ?_
  refine rk_region ?_
  refine wl_p (fun _ => o_move rfl) ?_
  refine wl_rangeS Try.underlying64 rfl hs hne.symm ?_
  rintro r w7 fi b7 i7 i7_1
  have sb7 := b7.size
  replace hcg := hcg.thenB b7
  replace hd := hd.u b7
  replace hs := hs.u b7
  refine wl_nil ?_
  refine rk_block ?_
  rw [← gone_all] at hd
  refine rk_joinf (fun fb fr W => fr = [] ++ fb ∧ MapS W bd C ∧ Chg bd (bd + 1) w W) ?_ (fun ks hj => ?_)
  rotate_left
  · refine rk_loopf (fun fb m fr W => ∃ (lf : Int → Bool), fr = [] ++ fb ∧ IterS W bd r bs C lf m ∧ MapS W bd (gone C lf) ∧ MapS W bs C ∧ Chg bd (bd + 1) w W) (n := cnt C) (Fr.le_of (by kernel_rfl) (by kernel_rfl) (by repeat' constructor)) ⟨_, rfl, fi, hd, hs, hcg⟩ ?_
    clear fi hd hs hcg
    rintro m fr W ⟨lf, rfl, fi, hd, hs, hcg⟩
    have hrlt := fi.lt
    first | refine rk_frame (by simp only [List.cons_append, List.nil_append, List.drop_succ_cons, List.drop_zero]; rfl) ?_ | refine wl_frame (by simp only [List.cons_append, List.nil_append, List.drop_succ_cons, List.drop_zero]; rfl) ?_
    refine rk_seq ?_
    refine rk_region ?_
    refine wl_nextS rfl fi hl (fun h0 => ?_) (fun i s W1 k1 hi hci hlf fi1 hk1 hg1 hs1 hen => ?_)
    · skip
      refine wl_p (fun _ => o_ext10 rfl) ?_
      refine wl_nil ?_
      refine rk_seq ?_
      refine rk_false rfl ?_
      refine rk_exit rfl ?_
      have e := gone_none C (lf := lf) (fun i hi => h0 _ (nat_wf (by omega)))
      rw [e] at hd
      exact rk_tof hj (Fr.le_of (by kernel_rfl) (by kernel_rfl) (by repeat' constructor)) ⟨rfl, hd, hcg⟩
    · replace hd := hd.k hg1 (ap_some (by omega))
      replace hs := hs.k hg1 (ap_some (by omega))
      replace hcg := hcg.andNew hg1 (fun j e => by injection e with e; omega)
      clear fi
      refine wl_p (fun _ => o_ext30 rfl) ?_
      refine wl_nil ?_
      refine rk_seq ?_
      refine rk_true rfl ?_
      refine rk_skip ?_
      refine rk_block ?_
      refine rk_seq ?_
      refine rk_region ?_
      refine wl_r (o_entryS rfl hen) ?_
      clear hen
      have hgl := gone_len C lf
      refine wl_p (fun _ => o_ext20 rfl) ?_
      refine wl_p (fun _ => o_ext21 rfl) ?_
      refine wl_allocSec ?_
      rintro g5 w5 f5 b5 i5 i5_1
      have s5 := b5.size
      replace hcg := hcg.thenB b5
      replace hs := hs.u b5
      replace hd := hd.u b5
      replace fi1 := fi1.u b5
      refine wl_p (fun _ => o_assign rfl) ?_
      refine wl_stSecB rfl f5 rfl ?_
      rintro w_1 f g e
      have s_1 := g.size
      replace hcg := hcg.andNew g.g (fun _ e => by injection e with e; have := hcg.size; omega)
      replace fi1 := fi1.y g (by decide)
      replace hd := hd.k g.g (ap_some (by omega))
      replace hs := hs.k g.g (ap_some (by omega))
      clear f5
      refine wl_nil ?_
      refine rk_region ?_
      refine wl_p (fun _ => o_move rfl) ?_
      refine wl_p (fun _ => o_move rfl) ?_
      refine wl_r (o_ldBa Try.isAgg62 Try.sizeOf62 rfl f (by omega)) ?_
      refine wl_putS Try.underlying64 rfl rfl hd rfl rfl (by omega) (by omega) ?_
      rintro w_2 f_1 g_1 e_1
      have s_2 := g_1.size
      replace hcg := hcg.trans (Chg.of_g1 g_1.g (by omega) (by omega))
      replace hs := hs.k g_1.g (ap_some (by omega))
      replace fi1 := fi1.m g_1
      replace f := f.k g_1.g (ap_some (by omega))
      clear hd
      refine wl_nil ?_
      refine rk_blk ?_
      rw [gone_step C lf hi hci] at f_1
      exact rk_againf (Fr.le_of (by kernel_rfl) (by kernel_rfl) (by repeat' constructor)) ⟨_, rfl, fi1, f_1, hs, hcg⟩ hk1
  clear fi hd hs hcg
  rintro fr W ⟨rfl, hd, hcg⟩
  first | refine rk_frame (by simp only [List.cons_append, List.nil_append, List.drop_succ_cons, List.drop_zero]; rfl) ?_ | refine wl_frame (by simp only [List.cons_append, List.nil_append, List.drop_succ_cons, List.drop_zero]; rfl) ?_
  refine end0 rfl ?_
  exact ⟨rfl, hd, ⟨⟨hcg.os, hcg.tape, hcg.output, hcg.size, fun k hk e => hcg.block k hk (by have : k ≠ bd := fun h => e (by rw [h]); omega)⟩, hdm⟩⟩
theorem C_dClone {lo hi g : Nat} {S : List Sec} {C : List (Option Sec)} (w : World) (hd : DkAt w lo hi g S C) :
    CallsR Try.prog 15 [.pointer (some ⟨g, 0, none⟩)] w fun v w' => ∃ g', v = .pointer (some ⟨g', 0, none⟩) ∧ DkAt w' w.heap.size w'.heap.size g' S C ∧ Below w.heap.size w w' := by
  refine callsR Try.func15 rfl rfl (by kernel_rfl) rfl ?_
  have hw := Below.refl w.heap.size w
  refine rk_seq ?_
  refine rk_region ?_
  refine wl_p (fun _ => o_assign rfl) ?_
  refine wl_nil ?_
  refine rk_seq ?_
  refine rk_seq ?_
  refine rk_region ?_
  refine wl_p (fun _ => o_move rfl) ?_
  refine wl_call rfl (C_valid _ hd) ?_
  rintro v5 w5 ⟨rfl, rfl⟩
  refine wl_p (fun _ => o_not rfl) ?_
  refine wl_nil ?_
  refine rk_false rfl ?_
  refine rk_skip ?_
  refine rk_seq ?_
  refine rk_region ?_
  refine wl_p (fun _ => o_move rfl) ?_
  refine wl_p (fun _ => o_nil rfl) ?_
  refine wl_p (fun _ => o_faddr (s := 66) (i := 1) (off := 1) Try.underlying66 rfl Try.sizeOf59 rfl rfl rfl) ?_
  obtain ⟨A, c, b, f, fs, fm, h4, h5, h6⟩ := hd.ex
  have hle := hd.len
  have hhi := hd.hi
  have hn1 := hd.n1
  have hn2 := hd.n2
  refine wl_r (o_loadbg Try.isAgg59 rfl f (by rfl)) ?_
  refine wl_call rfl (C_sClone _ fs rfl (by omega) (by omega)) ?_
  rintro v11 w11 ⟨A11, ⟨c11, ⟨rfl, ⟨f11, b11⟩⟩⟩⟩
  have qf11 := f11.cap
  have s11 := b11.size
  replace hw := hw.trans (b11.mono hw.size)
  refine wl_call rfl (C_made _ f11 rfl hw.size (by omega) (by omega)) ?_
  rintro v12 w12 ⟨g12, ⟨rfl, ⟨f12, ⟨i12, b12⟩⟩⟩⟩
  have s12 := b12.size
  replace hw := hw.trans (b12.mono hw.size)
  replace f11 := f11.u b12
  refine wl_p (fun _ => o_assign rfl) ?_
  refine wl_nil ?_
  refine rk_seq ?_
  refine rk_draw (id := 4) (none) [0, 1, 2, 4, 0, 16, 32, 64, 136] [0, 1, 3, 7, 0, 16, 48, 112, 255] 256 0 [(.p, 0), (.p, 1), (.p, 2), (.r, 3), (.p, 4), (.p, 5), (.p, 6), (.r, 7), (.l, 8)] (by kernel_rfl) (by kernel_rfl) (by kernel_rfl) (by kernel_rfl) (by kernel_rfl) ?_
  replace hw := hw.drew
  replace f11 := f11.d
  replace f12 := f12.d
  refine wl_p (fun _ => o_move rfl) ?_
  refine wl_p (fun _ => o_nil rfl) ?_
  refine wl_p (fun _ => o_faddr (s := 66) (i := 2) (off := 2) Try.underlying66 rfl Try.sizeOf64 rfl rfl rfl) ?_
  obtain ⟨A', c', b', k1, k2, k3, k4, k5, k6⟩ := f12.ex
  have kg1 := f12.g1
  have kg2 := f12.g2
  have khi := f12.hi
  clear f12
  have hsz := hw.size
  refine wl_r (o_loadbg Try.isAgg64 rfl k1 (by rfl)) ?_
  refine wl_p (fun _ => o_move rfl) ?_
  refine wl_p (fun _ => o_nil rfl) ?_
  refine wl_p (fun _ => o_faddr (s := 66) (i := 2) (off := 2) Try.underlying66 rfl Try.sizeOf64 rfl rfl rfl) ?_
  refine wl_r (o_loadbg Try.isAgg64 rfl (f.u hw) (by rfl)) ?_
  refine wl_call rfl (C_mCopy _ k3 (fm.u hw) (by omega) (by omega) (by omega)) ?_
  rintro v21 w21 ⟨rfl, ⟨f21, g21⟩⟩
  have s21 := g21.size
  simp only [drew_size] at s21
  replace hw := hw.trans (below_of_grownBy g21.g hw.size (by omega))
  replace k2 := k2.m g21
  replace k1 := k1.k g21.g (ap_some (by omega))
  replace f11 := f11.m g21
  clear k3
  refine wl_nild ?_
  refine rk_seq ?_
  refine rk_region ?_
  refine wl_p (fun _ => o_move rfl) ?_
  refine wl_p (fun _ => o_assign rfl) ?_
  refine wl_nil ?_
  refine ret1 rfl rfl ?_
  have hsz2 := hw.size
  have hs3 : w12.heap.size ≤ w21.heap.size := by have := g21.size; exact this
  exact ⟨g12, rfl, ⟨⟨A', c', b', k1, k2.base (by omega) hs3, f21, k4, by omega, k6⟩, kg1, by omega, Nat.le_refl _, hle, hn1, hn2⟩, hw⟩
theorem C_dCloneNil (w : World) :
    CallsR Try.prog 15 [.pointer none] w fun v w' => v = .pointer none ∧ Below w.heap.size w w' := by
  refine callsR Try.func15 rfl rfl (by kernel_rfl) rfl ?_
  have hw := Below.refl w.heap.size w
  refine rk_seq ?_
  refine rk_region ?_
  refine wl_p (fun _ => o_assign rfl) ?_
  refine wl_nil ?_
  refine rk_seq ?_
  refine rk_seq ?_
  refine rk_region ?_
  refine wl_p (fun _ => o_move rfl) ?_
  refine wl_call rfl (C_validNil _) ?_
  rintro v5 w5 ⟨rfl, rfl⟩
  refine wl_p (fun _ => o_not rfl) ?_
  refine wl_nil ?_
  refine rk_true rfl ?_
  refine rk_seq ?_
  refine rk_region ?_
  refine wl_p (fun _ => o_assign rfl) ?_
  refine wl_nil ?_
  refine ret1 rfl rfl ?_
  exact ⟨rfl, hw⟩
set_option maxRecDepth 100000 in
set_option maxHeartbeats 1000000 in
theorem K_dOf {B : Option Addr} {b : By} {n cp : Nat} (w : World) (hb : Rd w B b) (hn : n = b.length) (hc : n ≤ cp) (hl : b.length ≤ 4194304 + 1000) :
    CallsR Try.prog 24 [.slice B n cp] w fun v w' => ((¬ (b.length % 256 = 0 ∧ 256 ≤ b.length ∧ b.length ≤ 4194304) ∧ v = .tuple #[.pointer none, .int .i64 2]) ∨ (b.length % 256 = 0 ∧ 256 ≤ b.length ∧ b.length ≤ 4194304) ∧ ∃ (g : Nat) (S : List Sec), v = .tuple #[.pointer (some ⟨g, 0, none⟩), .int .i64 0] ∧ img S = b ∧ DkAt w' w.heap.size w'.heap.size g S (List.replicate S.length none)) ∧ Below w.heap.size w w' := by
  subst hn
  refine callsR Try.func24 rfl rfl (by kernel_rfl) rfl ?_
  have hw := Below.refl w.heap.size w
  by_cases h1 : b.length / 256 < 1
  · refine rk_seq ?_
    refine rk_region ?_
    refine wl_p (fun _ => o_assign rfl) ?_
    refine wl_p (fun _ => o_assign rfl) ?_
    refine wl_nil ?_
    refine rk_seq ?_
    refine rk_region ?_
    refine wl_p (fun _ => o_move rfl) ?_
    refine wl_p (fun _ => o_len (t := 32) Try.underlying32 rfl) ?_
    refine wl_p (fun _ => o_quo rfl rfl (by omega) (by omega) (by omega)) ?_
    refine wl_p (fun _ => o_assign rfl) ?_
    refine wl_nil ?_
    refine rk_seq ?_
    refine rk_seq ?_
    refine rk_region ?_
    refine wl_p (fun _ => o_move rfl) ?_
    refine wl_p (fun _ => o_lt rfl rfl) ?_
    refine wl_p (fun _ => o_move rfl) ?_
    refine wl_know 12 true rfl (decide_eq_true (by omega)) ?_
    refine wl_off ?_
    refine wl_off ?_
    refine wl_p (fun _ => o_pick_t rfl rfl) ?_
    refine wl_p (fun _ => o_move rfl) ?_
    refine wl_off ?_
    refine wl_off ?_
    refine wl_off ?_
    refine wl_off ?_
    refine wl_p (fun _ => o_pick_t rfl rfl) ?_
    refine wl_nil ?_
    refine rk_true rfl ?_
    refine rk_seq ?_
    refine rk_region ?_
    refine wl_p (fun _ => o_assign rfl) ?_
    refine wl_p (fun _ => o_assign rfl) ?_
    refine wl_nil ?_
    refine ret2 rfl rfl rfl ?_
    exact ⟨.inl ⟨by omega, rfl⟩, hw⟩
  · by_cases h2 : 16384 < b.length / 256
    · refine rk_seq ?_
      refine rk_region ?_
      refine wl_p (fun _ => o_assign rfl) ?_
      refine wl_p (fun _ => o_assign rfl) ?_
      refine wl_nil ?_
      refine rk_seq ?_
      refine rk_region ?_
      refine wl_p (fun _ => o_move rfl) ?_
      refine wl_p (fun _ => o_len (t := 32) Try.underlying32 rfl) ?_
      refine wl_p (fun _ => o_quo rfl rfl (by omega) (by omega) (by omega)) ?_
      refine wl_p (fun _ => o_assign rfl) ?_
      refine wl_nil ?_
      refine rk_seq ?_
      refine rk_seq ?_
      refine rk_region ?_
      refine wl_p (fun _ => o_move rfl) ?_
      refine wl_p (fun _ => o_lt rfl rfl) ?_
      refine wl_p (fun _ => o_move rfl) ?_
      refine wl_know 12 false rfl (decide_eq_false (by omega)) ?_
      refine wl_p (fun _ => o_move rfl) ?_
      refine wl_p (fun _ => o_gt rfl rfl) ?_
      refine wl_p (fun _ => o_pick_f rfl rfl) ?_
      refine wl_p (fun _ => o_move rfl) ?_
      refine wl_know 16 true rfl (decide_eq_true (by omega)) ?_
      refine wl_off ?_
      refine wl_off ?_
      refine wl_off ?_
      refine wl_off ?_
      refine wl_p (fun _ => o_pick_t rfl rfl) ?_
      refine wl_nil ?_
      refine rk_true rfl ?_
      refine rk_seq ?_
      refine rk_region ?_
      refine wl_p (fun _ => o_assign rfl) ?_
      refine wl_p (fun _ => o_assign rfl) ?_
      refine wl_nil ?_
      refine ret2 rfl rfl rfl ?_
      exact ⟨.inl ⟨by omega, rfl⟩, hw⟩
    · by_cases h3 : b.length % 256 = 0
      · obtain ⟨m, hm⟩ : ∃ m, b.length = m * 256 := ⟨b.length / 256, by omega⟩
        refine rk_seq ?_
        refine rk_region ?_
        refine wl_p (fun _ => o_assign rfl) ?_
        refine wl_p (fun _ => o_assign rfl) ?_
        refine wl_nil ?_
        refine rk_seq ?_
        refine rk_region ?_
        refine wl_p (fun _ => o_move rfl) ?_
        refine wl_p (fun _ => o_len (t := 32) Try.underlying32 rfl) ?_
        refine wl_p (fun _ => o_quo rfl rfl (by omega) (by omega) (by omega)) ?_
        refine wl_p (fun _ => o_assign rfl) ?_
        refine wl_nil ?_
        refine rk_seq ?_
        refine rk_seq ?_
        refine rk_region ?_
        refine wl_p (fun _ => o_move rfl) ?_
        refine wl_p (fun _ => o_lt rfl rfl) ?_
        refine wl_p (fun _ => o_move rfl) ?_
        refine wl_know 12 false rfl (decide_eq_false (by omega)) ?_
        refine wl_p (fun _ => o_move rfl) ?_
        refine wl_p (fun _ => o_gt rfl rfl) ?_
        refine wl_p (fun _ => o_pick_f rfl rfl) ?_
        refine wl_p (fun _ => o_move rfl) ?_
        refine wl_know 16 false rfl (decide_eq_false (by omega)) ?_
        refine wl_p (fun _ => o_move rfl) ?_
        refine wl_p (fun _ => o_len (t := 32) Try.underlying32 rfl) ?_
        refine wl_p (fun _ => o_rem rfl rfl (by omega) (by omega)) ?_
        refine wl_p (fun _ => o_ne rfl rfl) ?_
        refine wl_p (fun _ => o_pick_f rfl rfl) ?_
        refine wl_nil ?_
        refine rk_if rfl (fun h21 => absurd h21 (by omega)) (fun h21 => ?_)
        refine rk_skip ?_
        refine rk_seq ?_
        refine rk_region ?_
        refine wl_p (fun _ => o_move rfl) ?_
        refine wl_mkSec (List.length b / 256) rfl rfl (by omega) (by rfl) (by omega) ?_
        rintro A23 w23 f23 b23
        have qf23 := f23.cap
        have s23 := b23.size
        replace hw := hw.trans (b23.mono hw.size)
        refine wl_p (fun _ => o_assign rfl) ?_
        refine wl_nil ?_
        refine rk_seq ?_
        refine rk_seq ?_
        refine rk_region ?_
        refine wl_p (fun _ => o_move rfl) ?_
        refine wl_p (fun _ => o_len (t := 59) Try.underlying59 rfl) ?_
        refine wl_p (fun _ => o_move rfl) ?_
        refine wl_nil ?_
        refine rk_block ?_
        have hm2 : b.length / 256 = m := by omega
        rw [hm2] at f23 ⊢
        refine rk_joinf (fun fb fr W => ∃ (S' : List Sec), fr = [] ++ fb.drop 1 ∧ S'.length = m ∧ img S' = b ∧ OwnSec W w.heap.size W.heap.size A23 m S' ∧ Below w.heap.size w W) ?_ (fun ks hj => ?_)
        rotate_left
        · refine rk_loopf (fun fb k fr W => ∃ (i : Nat) (v : Int) (S' : List Sec), fr = [(26, .int .i64 v)] ++ fb.drop 1 ∧ v = i ∧ i ≤ m ∧ k = m - i ∧ S'.length = m ∧ img (S'.take i) = b.take (i * 256) ∧ OwnSec W w.heap.size W.heap.size A23 m S' ∧ Below w.heap.size w W) (n := m) (Fr.le_of (by kernel_rfl) (by kernel_rfl) (by repeat' constructor)) ⟨0, _, List.replicate m z256, rfl, rfl, by omega, rfl, List.length_replicate, by simp [img], f23, hw⟩ ?_
          clear f23 hw
          rintro k fr W ⟨i, v, S', rfl, rfl, hi, rfl, hSl, hS, f23, hw⟩
          first | refine rk_frame (by simp only [List.cons_append, List.nil_append, List.drop_succ_cons, List.drop_zero]; rfl) ?_ | refine wl_frame (by simp only [List.cons_append, List.nil_append, List.drop_succ_cons, List.drop_zero]; rfl) ?_
          refine rk_seq ?_
          refine rk_region ?_
          refine wl_p (fun _ => o_lt rfl rfl) ?_
          refine wl_nil ?_
          refine rk_seq ?_
          refine rk_if rfl (fun h27 => ?_) (fun h27 => ?_)
          · have him : i < m := by omega
            have hio : i * 256 + 256 ≤ b.length := by rw [hm]; omega
            refine rk_skip ?_
            refine rk_seq ?_
            refine rk_block ?_
            refine rk_seq ?_
            refine rk_region ?_
            refine wl_p (fun _ => o_move rfl) ?_
            refine wl_p (fun _ => o_assign rfl) ?_
            refine wl_nil ?_
            refine rk_region ?_
            refine wl_p (fun _ => o_move rfl) ?_
            refine wl_p (fun _ => o_move rfl) ?_
            refine wl_p (fun _ => o_move rfl) ?_
            refine wl_p (fun _ => o_move rfl) ?_
            refine wl_p (fun _ => o_mul rfl rfl (by omega) (by omega)) ?_
            refine wl_slBl Try.u8 (i * 256) rfl rfl (hb.u hw) rfl (by omega) (by omega) (by omega) ?_
            rintro A34 c34 f34 i34 i34_1
            refine wl_p (fun _ => (o_arrptr Try.underlying62 rfl (by omega))) ?_
            have hdl : 256 ≤ (b.drop (i * 256)).length := by rw [List.length_drop]; omega
            have f34t := f34.take hdl
            obtain ⟨q, hq⟩ : ∃ q, (b.drop (i * 256)).take 256 = q := ⟨_, rfl⟩
            have hql : q.length = 256 := by rw [← hq, List.length_take, List.length_drop]; omega
            rw [hq] at f34t
            clear f34
            refine wl_r (o_ldSecSl rfl f34t hql) ?_
            refine wl_p (fun _ => (o_iaddrA (i) Try.underlying59 Try.sizeOf62 rfl rfl rfl (f23.some_ (by omega)) (by omega))) ?_
            refine wl_stSec rfl f23 rfl (by omega) ?_
            rintro w_1 f g b_1 e
            have qf := f.cap
            have s := g.size
            replace hw := hw.trans (b_1.mono (by omega))
            clear f34t
            clear f23
            refine wl_nil ?_
            refine rk_blk ?_
            refine rk_region ?_
            refine wl_p (fun _ => o_add rfl rfl (by omega) (by omega)) ?_
            refine wl_p (fun _ => o_move rfl) ?_
            refine wl_nil ?_
            have e1 : img ((S'.set i ⟨q, hql⟩).take (i + 1)) = b.take ((i + 1) * 256) := by
              rw [List.take_succ_eq_append_getElem (by rw [List.length_set]; omega), img_snoc, List.take_set_of_le (Nat.le_refl _), hS, List.getElem_set_self, Nat.add_mul, Nat.one_mul, List.take_add, hq]
            exact rk_againf (Fr.le_of (by kernel_rfl) (by kernel_rfl) (by repeat' constructor)) ⟨i + 1, (i : Int) + 1, S'.set i ⟨q, hql⟩, rfl, by omega, by omega, rfl, by rw [List.length_set]; exact hSl, e1, (show OwnSec w_1 w.heap.size W.heap.size A23 m (S'.set i ⟨q, hql⟩) by assumption).base (Nat.le_refl _) (by omega), hw⟩ (by omega)
          · refine rk_exit rfl ?_
            obtain rfl : i = m := by omega
            rw [List.take_of_length_le (by omega), List.take_of_length_le (by omega)] at hS
            exact rk_tof hj (Fr.le_of (by kernel_rfl) (by kernel_rfl) (by repeat' constructor)) ⟨S', rfl, hSl, hS, f23, hw⟩
        clear f23 hw
        rintro fr W ⟨S', rfl, hSl, hS, f23, hw⟩
        obtain rfl : m = S'.length := hSl.symm
        first | refine rk_frame (by simp only [List.cons_append, List.nil_append, List.drop_succ_cons, List.drop_zero]; rfl) ?_ | refine wl_frame (by simp only [List.cons_append, List.nil_append, List.drop_succ_cons, List.drop_zero]; rfl) ?_
        refine rk_seq ?_
        refine rk_region ?_
        refine wl_p (fun _ => o_move rfl) ?_
        refine wl_call rfl (C_made _ f23 rfl hw.size (by omega) (by omega)) ?_
        rintro v40 w40 ⟨g40, ⟨rfl, ⟨f40, ⟨i40, b40⟩⟩⟩⟩
        have s40 := b40.size
        replace hw := hw.trans (b40.mono hw.size)
        replace f23 := f23.u b40
        refine wl_p (fun _ => o_assign rfl) ?_
        refine wl_p (fun _ => o_assign rfl) ?_
        refine wl_nil ?_
        refine ret2 rfl rfl rfl ?_
        exact ⟨.inr ⟨⟨by omega, by omega, by omega⟩, g40, S', rfl, hS, f40⟩, hw⟩
      · refine rk_seq ?_
        refine rk_region ?_
        refine wl_p (fun _ => o_assign rfl) ?_
        refine wl_p (fun _ => o_assign rfl) ?_
        refine wl_nil ?_
        refine rk_seq ?_
        refine rk_region ?_
        refine wl_p (fun _ => o_move rfl) ?_
        refine wl_p (fun _ => o_len (t := 32) Try.underlying32 rfl) ?_
        refine wl_p (fun _ => o_quo rfl rfl (by omega) (by omega) (by omega)) ?_
        refine wl_p (fun _ => o_assign rfl) ?_
        refine wl_nil ?_
        refine rk_seq ?_
        refine rk_seq ?_
        refine rk_region ?_
        refine wl_p (fun _ => o_move rfl) ?_
        refine wl_p (fun _ => o_lt rfl rfl) ?_
        refine wl_p (fun _ => o_move rfl) ?_
        refine wl_know 12 false rfl (decide_eq_false (by omega)) ?_
        refine wl_p (fun _ => o_move rfl) ?_
        refine wl_p (fun _ => o_gt rfl rfl) ?_
        refine wl_p (fun _ => o_pick_f rfl rfl) ?_
        refine wl_p (fun _ => o_move rfl) ?_
        refine wl_know 16 false rfl (decide_eq_false (by omega)) ?_
        refine wl_p (fun _ => o_move rfl) ?_
        refine wl_p (fun _ => o_len (t := 32) Try.underlying32 rfl) ?_
        refine wl_p (fun _ => o_rem rfl rfl (by omega) (by omega)) ?_
        refine wl_p (fun _ => o_ne rfl rfl) ?_
        refine wl_p (fun _ => o_pick_f rfl rfl) ?_
        refine wl_nil ?_
        refine rk_if rfl (fun h21 => ?_) (fun h21 => h21.elim (by omega))
        refine rk_seq ?_
        refine rk_region ?_
        refine wl_p (fun _ => o_assign rfl) ?_
        refine wl_p (fun _ => o_assign rfl) ?_
        refine wl_nil ?_
        refine ret2 rfl rfl rfl ?_
        exact ⟨.inl ⟨by omega, rfl⟩, hw⟩
end Go.Proofs.Ythkfjoilhoemmaa
/-
  Walk of headwaterkit.Pick.
-/
namespace Go.Proofs.Ythkfjoilhoemmaa
open Go.RowKit
theorem tmod_neg (n m : Int) (hm : 0 < m) (h : n.tmod m < 0) : n % m = n.tmod m + m := by
  have e := Int.tmod_eq_emod (a := n) (b := m)
  have h1 := Int.emod_nonneg n (b := m) (by omega)
  split at e <;> omega
theorem tmod_pos (n m : Int) (hm : 0 < m) (h : ¬ n.tmod m < 0) : n % m = n.tmod m := by
  have e := Int.tmod_eq_emod (a := n) (b := m)
  have h2 := Int.emod_lt_of_pos n hm
  split at e <;> omega
def pick (n m : Int) : Int := if m < 1 then 0 else n % m
theorem i64_wf {n : Int} (h : -9223372036854775808 ≤ n ∧ n ≤ 9223372036854775807) : (Lit.int .i64 n).wf = true := by
  simp only [Lit.wf, Bool.and_eq_true, decide_eq_true_eq]
  exact h
theorem pick_range (n m : Int) (hm : 1 ≤ m) : 0 ≤ pick n m ∧ pick n m < m := by
  rw [pick, if_neg (by omega)]
  exact ⟨Int.emod_nonneg n (by omega), Int.emod_lt_of_pos n (by omega)⟩
theorem C_Pick (n m : Int) (wn : (Lit.int .i64 n).wf = true) (wm : (Lit.int .i64 m).wf = true) (w : World) :
    CallsR Try.prog 10 [.int .i64 n, .int .i64 m] w fun v w' => v = .int .i64 (pick n m) ∧ w' = w := by
  have bn := bounds_i64 wn
  have bm := bounds_i64 wm
  refine callsR Try.func10 rfl rfl (by kernel_rfl) rfl ?_
  refine rk_seq ?_
  refine rk_region ?_
  refine wl_p (fun _ => o_assign rfl) ?_
  refine wl_nil ?_
  refine rk_seq ?_
  refine rk_seq ?_
  refine rk_region ?_
  refine wl_p (fun _ => o_move rfl) ?_
  refine wl_p (fun _ => o_lt rfl rfl) ?_
  refine wl_nil ?_
  refine rk_if rfl (fun h => ?_) (fun h => ?_)
  · refine rk_seq ?_
    refine rk_region ?_
    refine wl_p (fun _ => o_assign rfl) ?_
    refine wl_nil ?_
    refine ret1 rfl rfl ?_
    exact ⟨by rw [pick, if_pos h], rfl⟩
  · refine rk_skip ?_
    refine rk_seq ?_
    refine rk_region ?_
    refine wl_p (fun _ => o_move rfl) ?_
    refine wl_p (fun _ => o_move rfl) ?_
    refine wl_p (fun _ => o_remz rfl rfl (by omega)) ?_
    refine wl_p (fun _ => o_assign rfl) ?_
    refine wl_nil ?_
    refine rk_seq ?_
    refine rk_seq ?_
    refine rk_region ?_
    refine wl_p (fun _ => o_move rfl) ?_
    refine wl_p (fun _ => o_lt rfl rfl) ?_
    refine wl_nil ?_
    refine rk_if rfl (fun h2 => ?_) (fun h2 => ?_)
    · have e := tmod_neg n m (by omega) h2
      have e1 := Int.emod_nonneg n (b := m) (by omega)
      have e2 := Int.emod_lt_of_pos n (b := m) (by omega)
      refine rk_region ?_
      refine wl_p (fun _ => o_move rfl) ?_
      refine wl_p (fun _ => o_move rfl) ?_
      refine wl_p (fun _ => o_add rfl rfl (by omega) (by omega)) ?_
      refine wl_p (fun _ => o_assign rfl) ?_
      refine wl_nil ?_
      refine rk_seq ?_
      refine rk_region ?_
      refine wl_p (fun _ => o_move rfl) ?_
      refine wl_p (fun _ => o_assign rfl) ?_
      refine wl_nil ?_
      refine ret1 rfl rfl ?_
      exact ⟨by rw [pick, if_neg h, tmod_neg n m (by omega) h2], rfl⟩
    · refine rk_skip ?_
      refine rk_seq ?_
      refine rk_region ?_
      refine wl_p (fun _ => o_move rfl) ?_
      refine wl_p (fun _ => o_assign rfl) ?_
      refine wl_nil ?_
      refine ret1 rfl rfl ?_
      exact ⟨by rw [pick, if_neg h, tmod_pos n m (by omega) h2], rfl⟩
theorem C_PickR {n m r : Int} (w : World) (hr : pick n m = r) (wn : (Lit.int .i64 n).wf = true) (wm : (Lit.int .i64 m).wf = true) :
    CallsR Try.prog 10 [.int .i64 n, .int .i64 m] w fun v w' => v = .int .i64 r ∧ Below w.heap.size w w' := by
  refine (C_Pick n m wn wm w).mono ?_
  rintro v w' ⟨rfl, rfl⟩
  exact ⟨congrArg _ hr, Below.refl _ _⟩
end Go.Proofs.Ythkfjoilhoemmaa
/-
  Rows of numbers of any kind (one cell each), of the call's own: made, read, written, appended. No function of the program is named here.
-/
namespace Go.Proofs.Ythkfjoilhoemmaa
open Go.RowKit
def vK (k : IntKind) (l : List Nat) : List Value := l.map fun x : Nat => .int k (x : Int)
theorem vK_length (k : IntKind) (l : List Nat) : (vK k l).length = l.length := List.length_map ..
theorem vK_one (k : IntKind) (l : List Nat) : ∀ v ∈ vK k l, v.oneCell' = true := fun v h => by
  obtain ⟨x, _, rfl⟩ := List.mem_map.1 h; rfl
theorem vK_get {k : IntKind} {l : List Nat} {j : Nat} (h : j < l.length) : (vK k l)[j]? = some (.int k (l[j] : Int)) := by
  unfold vK; rw [List.getElem?_map, List.getElem?_eq_getElem h]; rfl
theorem vK_append (k : IntKind) (l m : List Nat) : vK k (l ++ m) = vK k l ++ vK k m := List.map_append ..
theorem vK_set (k : IntKind) (l : List Nat) (j a : Nat) : vK k (l.set j a) = (vK k l).set j (.int k (a : Int)) := by
  unfold vK; rw [List.map_set]
/-- Numbers that are read. -/
def RdK (k : IntKind) (w : World) (A : Option Addr) (l : List Nat) : Prop := Reads w 1 A l.length (vK k l)
/-- A row of the call's own. -/
def OwnK (k : IntKind) (e : TypeId) (w : World) (lo hi : Nat) (A : Option Addr) (c : Nat) (l : List Nat) : Prop := RowH w lo hi e 1 A l.length c (vK k l)
theorem OwnK.k {q : IntKind} {w w' : World} {lo hi c : Nat} {e : TypeId} {A : Option Addr} {l : List Nat} {row : Option Nat} (h : OwnK q e w lo hi A c l) (hg : w.grownBy w' row) (ha : Ap row lo hi) : OwnK q e w' lo hi A c l := RowH.k h hg ha
section
variable {k : IntKind} {w w' : World} {lo hi c b : Nat} {e e' : TypeId} {A : Option Addr} {l : List Nat} {row : Option Nat}
theorem RdK.u (h : RdK k w A l) (hb : Below w.heap.size w w') : RdK k w' A l := h.below hb
theorem RdK.d (h : RdK k w A l) : RdK k w.drew A l := h
theorem RdK.nil_ : RdK k w none [] := Reads.none_ _ _ _
theorem RdK.some_ (h : RdK k w A l) (hl : 0 < l.length) : A = some (A.getD ⟨0, 0, none⟩) := Reads.some_ h (by decide) hl
theorem OwnK.u (h : OwnK k e w lo hi A c l) (hb : Below w.heap.size w w') : OwnK k e w' lo hi A c l := RowH.u h hb
theorem OwnK.d (h : OwnK k e w lo hi A c l) : OwnK k e w.drew lo hi A c l := RowH.d h
theorem OwnK.y (h : OwnK k e w lo hi A c l) (hg : Grew w w' e' row) (hne : e' ≠ e) : OwnK k e w' lo hi A c l := RowH.y h hg hne
theorem OwnK.m (h : OwnK k e w lo hi A c l) (hg : GrewM w w' b) : OwnK k e w' lo hi A c l := RowH.m h hg
theorem OwnK.ap {lo' hi' : Nat} (h : OwnK k e w lo hi A c l) (hd : hi ≤ lo' ∨ hi' ≤ lo) : Ap (blk A) lo' hi' := RowH.ap h hd
theorem OwnK.cap (h : OwnK k e w lo hi A c l) : l.length ≤ c := RowH.cap h
theorem OwnK.to_RdK (h : OwnK k e w lo hi A c l) : RdK k w A l := RowH.rd h
theorem OwnK.nil_ : OwnK k e w lo hi none 0 [] := RowH.nil _ _ _ _ _
theorem OwnK.base {lo' hi' : Nat} (h : OwnK k e w lo hi A c l) (h1 : lo' ≤ lo) (h2 : hi ≤ hi') : OwnK k e w lo' hi' A c l := RowH.base h h1 h2
theorem OwnK.some_ (h : OwnK k e w lo hi A c l) (hl : 0 < l.length) : A = some (A.getD ⟨0, 0, none⟩) := h.to_RdK.some_ hl
/-- A row that is there begins at the beginning of its block. -/
theorem OwnK.at_ (h : OwnK k e w lo hi A c l) (hl : 0 < l.length) : ∃ g, A = some ⟨g, 0, none⟩ ∧ blk A = some g := by
  rcases h.o.2 with ⟨h', h0⟩ | ⟨g, cap, cur, hv, _⟩
  · omega
  · injection hv with hv
    exact ⟨g, hv, by rw [hv]; rfl⟩
theorem OwnK.stored {j a : Nat} (h : OwnK k e w lo hi A c l) (hj : j < l.length) :
    OwnK k e (w.setCell (adr A j) (.int k (a : Int))) lo hi A c (l.set j a) ∧ Grew w (w.setCell (adr A j) (.int k (a : Int))) e (blk A) ∧ (w.setCell (adr A j) (.int k (a : Int))).heap.size = w.heap.size ∧ w.frozen? (adr A j) = false ∧ (w.cell? (adr A j)).isSome = true := by
  obtain ⟨g, rfl, hb⟩ := h.at_ (by omega)
  have e1 : adr (some ⟨g, 0, none⟩) j = ⟨g, j, none⟩ := by simp [adr, add_plain]
  rw [e1]
  have h1 := World.ownsRow.stored h.o j (.int k (a : Int))
  refine ⟨⟨?_, h.hi⟩, ⟨by rw [hb]; exact h1.2, RowH.ty h⟩, ?_, World.ownsRow.frozenAt h.o j, ?_⟩
  · show World.ownsRow _ lo e 1 _ (l.set j a).length _
    rw [List.length_set, vK_set]; exact h1.1
  · exact Nat.le_antisymm (by simp) h1.2.size
  · have := (RowH.rd h).adr_ (fun e0 => by have := vK_length k l; rw [e0] at this; simp at this; omega)
    have h2 := this.2 j _ (vK_get (k := k) hj)
    rw [e1] at h2; rw [h2]; rfl
end
section
variable {P : Program} {fn : Func} {F : Ending → World → Prop} {N : Nat} {ks : List K} {ops : Array Oper} {tg : Tags} {l : List Oper} {fr : Fr} {w : World} {ty t e : TypeId} {z : Value} {k k1 k2 : IntKind} {pos : String} {aft : Array Edge} {gd : Option (Nat × Bool)} {d n c a j q lo hi bytes : Nat} {x y : Operand} {A X : Option Addr} {zs ms : List Nat}
--@ rule load r o_ldK
theorem o_ldK (ha' : ∀ w, (isAgg t).run P w = .ok false w) (hx : fr.ev x = some (.pointer (some (adr A j)))) (hr : RdK k w A zs) (hj : j < zs.length) : OpV P N fr w (.load t x) ty (.int k (zs[j] : Int)) w :=
  o_loadA1 ha' hx hr (vK_get hj)
--@ rule store l wl_stK
theorem wl_stK (hs : ∀ w, (sizeOf t).run P w = .ok 1 w) (hx : fr.ev x = some (.pointer (some (adr A j)))) (hown : OwnK k e w lo hi A c zs) (hy : fr.ev y = some (.int k (a : Int))) (hj : j < zs.length)
    (hk : ∀ w', OwnK k e w' lo hi A c (zs.set j a) → Grew w w' e (blk A) → Below lo w w' → w'.heap.size = w.heap.size → WL P fn F N ks ops tg.tail l fr w') (ht : tg.loud = true := by rfl) (hg : onG ops fr gd = true := by rfl) (hq : tg.calm = false ∨ blk A = tg.row := by exact .inl rfl) :
    WL P fn F N ks ops tg (⟨none, .store t x y, ty, pos, aft, gd⟩ :: l) fr w := by
  obtain ⟨h1, h2, h3, h4, h5⟩ := hown.stored (a := a) hj
  obtain ⟨u, hu⟩ := Option.isSome_iff_exists.1 h5
  obtain ⟨g, e1, e2⟩ := hown.at_ (by omega)
  have eg : adr A j = ⟨g, j, none⟩ := by rw [e1]; simp [adr, add_plain]
  rw [eg] at hx hu h4 h1 h2 h3
  refine wl_u (o_store hs hx hy rfl hu h4) (hk _ h1 h2 ?_ h3) ht hg ?_
  · exact below_of_grownBy (by rw [← e2]; exact h2.g) (by have := RowH.lt hown g e2; omega) (by have := RowH.lt hown g e2; omega)
  · rcases hq with hq | hq
    · exact .inl hq
    · exact .inr (Rw.of (show w.grownBy _ tg.row by rw [← hq]; exact h2.g))
theorem wl_litK0 (T : RowT P t e z 1 bytes) (hs : ∀ w, (sizeOf e).run P w = .ok 1 w) (hz : ∀ w, (zeroValue e).run P w = .ok z w)
    (hk : ∀ A w', OwnK k e w' w.heap.size w'.heap.size A 0 [] → Below w.heap.size w w' → WL P fn F N ks ops tg.tail l ((d, .slice A 0 0) :: fr) w')
    (ht : tg.loud = true := by rfl) (hg : onG ops fr gd = true := by rfl) (hd : Nat.blt d N = true := by rfl) : WL P fn F N ks ops tg (⟨some d, .buildSlice t 0 #[], ty, pos, aft, gd⟩ :: l) fr w :=
  wl_litR (xs := []) (vs := []) T hs hz rfl rfl rfl rfl (fun v h => by cases h) (by simp) (fun A w' h1 h2 => hk A w' h1 h2) ht hg hd
theorem wl_appK0 (T : RowT P t e z 1 bytes) (hb : bytes ≤ 8) (hx : fr.ev x = some (.slice A 0 0)) (hown : OwnK k e w lo hi A 0 []) (hy : fr.ev y = some (.slice X j q)) (hr : RdK k w X zs) (hj : j = zs.length) (hlen : zs.length ≤ 1000000) (hB : lo ≤ w.heap.size)
    (h : ∀ A' c' w', OwnK k e w' lo w'.heap.size A' c' zs → Below w.heap.size w w' → WL P fn F N ks ops tg.tail l ((d, .slice A' zs.length c') :: fr) w')
    (ht : tg.loud = true := by rfl) (hg : onG ops fr gd = true := by rfl) (hd : Nat.blt d N = true := by rfl) :
    WL P fn F N ks ops tg (⟨some d, .call { callee := .builtin .append, args := #[x, y], argTypes := #[t, t] }, ty, pos, aft, gd⟩ :: l) fr w := by
  subst hj
  exact wl_appR0 T hx hown hy hr (vK_one k zs) (by simp only [maxLen]; omega) (by have := Nat.mul_le_mul hlen hb; omega) hB (fun A' c' w' h1 h2 => h A' c' w' h1 h2) ht hg hd
theorem wl_appK (T : RowT P t e z 1 bytes) (hb : bytes ≤ 8) (hx : fr.ev x = some (.slice A n c)) (hown : OwnK k e w lo hi A c zs) (hn : n = zs.length) (hy : fr.ev y = some (.slice X j q)) (hr : RdK k w X ms) (hj : j = ms.length) (hlen : zs.length + ms.length ≤ 1000000) (hB : lo ≤ w.heap.size)
    (h : ∀ A' c' w', OwnK k e w' lo w'.heap.size A' c' (zs ++ ms) → Grew w w' e (blk A) → Below lo w w' → (blk A' = blk A ∨ blk A' = some w.heap.size) → WL P fn F N ks ops tg.tail l ((d, .slice A' (zs ++ ms).length c') :: fr) w')
    (ht : tg.loud = true := by rfl) (hg : onG ops fr gd = true := by rfl) (hd : Nat.blt d N = true := by rfl) (hq : tg.calm = false ∨ blk A = none ∨ blk A = tg.row := by exact .inl rfl) :
    WL P fn F N ks ops tg (⟨some d, .call { callee := .builtin .append, args := #[x, y], argTypes := #[t, t] }, ty, pos, aft, gd⟩ :: l) fr w := by
  subst hn; subst hj
  refine wl_appR T hx hown hy hr (vK_one k ms) (by simp only [maxLen]; omega) (by have := Nat.mul_le_mul hlen hb; omega) hB (fun A' c' w' h1 h2 h3 h4 => ?_) ht hg hd hq
  have := h A' c' w' (by unfold OwnK; rw [vK_append, List.length_append]; exact h1) h2 h3 h4
  rwa [List.length_append] at this
theorem wl_mkK {C E : Int} (T : RowT P t e (.int k 0) 1 bytes) (hb : bytes ≤ 8) (n : Nat) (hx : fr.ev x = some (.int k1 E)) (hy : fr.ev y = some (.int k2 C)) (hE : E = (n : Int)) (hC : C = (n : Int)) (hn : n ≤ 1000000)
    (hk : ∀ A w', OwnK k e w' w.heap.size w'.heap.size A n (List.replicate n 0) → Below w.heap.size w w' → WL P fn F N ks ops tg.tail l ((d, .slice A n n) :: fr) w')
    (ht : tg.loud = true := by rfl) (hg : onG ops fr gd = true := by rfl) (hd : Nat.blt d N = true := by rfl) : WL P fn F N ks ops tg (⟨some d, .makeSlice t x y, ty, pos, aft, gd⟩ :: l) fr w := by
  subst hC; subst hE
  obtain ⟨i, hi, hz, hs, hb'⟩ := info_parts T.hi
  obtain ⟨w', hrun, r1, r2⟩ := run_make_full (P := P) w w.heap.size t e i _ 1 T.ht hi hz hs k1 k2 n (by rw [hb']; have := Nat.mul_le_mul hb hn; omega) (by simp only [maxLen]; omega) (Nat.le_refl _)
  have hbl : Below w.heap.size w w' := (Below.refl _ _).grown r2 (Nat.le_refl _) (by simp)
  have e : (madeCells (Value.int k 0).cells (n * 1)).toList = vK k (List.replicate n 0) := by
    rw [Nat.mul_one]; exact (toList_madeCells_one _ _).trans (by simp [vK])
  rw [e] at r1
  have ho : OwnK k _ w' w.heap.size w'.heap.size (some ⟨w.heap.size, 0, none⟩) n (List.replicate n 0) := ⟨by rw [List.length_replicate]; exact r1, fun b hb => (World.ownsRow.lt r1 b (by rw [blk_own]; exact hb)).2⟩
  exact wl_v (fun a ha o ho _ => by simp [execOp, ho, ha.ev hx, ha.ev hy, hrun]) (hk _ w' ho hbl) ht hg hd (.inr (grown_of_below hbl _))
end
end Go.Proofs.Ythkfjoilhoemmaa
/-
  A byte of a row of the call's own is written; two bytes combined. No function of the program is named here.
-/
namespace Go.Proofs.Ythkfjoilhoemmaa
open Go.RowKit
theorem b8_vK (l : List UInt8) : B8 l = vK .u8 (l.map UInt8.toNat) := by
  unfold B8 vK; rw [List.map_map]; rfl
theorem OwnH.to_K {w : World} {lo hi c : Nat} {A : Option Addr} {l : List UInt8} (h : OwnH w lo hi A c l) : OwnK .u8 5 w lo hi A c (l.map UInt8.toNat) := by
  have h' : RowH w lo hi 5 1 A l.length c (B8 l) := h
  rw [b8_vK] at h'
  show RowH w lo hi 5 1 A (l.map UInt8.toNat).length c _
  rw [List.length_map]
  exact h'
theorem OwnK.to_H {w : World} {lo hi c : Nat} {A : Option Addr} {l : List UInt8} (h : OwnK .u8 5 w lo hi A c (l.map UInt8.toNat)) : OwnH w lo hi A c l := by
  have h' : RowH w lo hi 5 1 A (l.map UInt8.toNat).length c (vK .u8 (l.map UInt8.toNat)) := h
  rw [List.length_map, ← b8_vK] at h'
  exact h'
theorem OwnH.some_ {w : World} {lo hi c : Nat} {A : Option Addr} {l : List UInt8} (h : OwnH w lo hi A c l) (hl : 0 < l.length) : A = some (A.getD ⟨0, 0, none⟩) := h.to_Rd.some_ (by decide) (by simpa using hl)
theorem xor_u8 (a b : UInt8) : bits .xor .u8 (a.toNat : Int) (b.toNat : Int) = ((a ^^^ b).toNat : Int) := by
  have ha := a.toNat_lt
  have hb := b.toNat_lt
  have hx : a.toNat ^^^ b.toNat < 2 ^ 8 := Nat.xor_lt_two_pow (by omega) (by omega)
  have h1 : (BitVec.ofInt 8 (a.toNat : Int)).toNat = a.toNat := by
    rw [BitVec.ofInt_natCast, BitVec.toNat_ofNat]; exact Nat.mod_eq_of_lt (by omega)
  have h2 : (BitVec.ofInt 8 (b.toNat : Int)).toNat = b.toNat := by
    rw [BitVec.ofInt_natCast, BitVec.toNat_ofNat]; exact Nat.mod_eq_of_lt (by omega)
  show IntKind.u8.wrap ((BitVec.ofInt 8 (a.toNat : Int) ^^^ BitVec.ofInt 8 (b.toNat : Int)).toNat : Int) = _
  rw [BitVec.toNat_xor, h1, h2, UInt8.toNat_xor, u8_in (by omega) (by omega)]
section
variable {P : Program} {fn : Func} {F : Ending → World → Prop} {N : Nat} {ks : List K} {ops : Array Oper} {tg : Tags} {l : List Oper} {fr : Fr} {w : World} {ty t t' : TypeId} {pos : String} {aft : Array Edge} {gd : Option (Nat × Bool)} {c j lo hi : Nat} {x y : Operand} {A : Option Addr} {bs : List UInt8} {u v : UInt8}
--@ rule! binOp p o_xor8
theorem o_xor8 (hx : fr.ev x = some (.int .u8 (u.toNat : Int))) (hy : fr.ev y = some (.int .u8 (v.toNat : Int))) : OpV P N fr w (.binOp .xor t x y t') ty (.int .u8 ((u ^^^ v).toNat : Int)) w := o_asi (o_xor hx hy) (xor_u8 u v)
--@ rule store l wl_stO
theorem wl_stO (hs : ∀ w, (sizeOf t).run P w = .ok 1 w) (hx : fr.ev x = some (.pointer (some (adr A j)))) (hown : OwnH w lo hi A c bs) (hy : fr.ev y = some (.int .u8 (u.toNat : Int))) (hj : j < bs.length)
    (hk : ∀ w', OwnH w' lo hi A c (bs.set j u) → Grew w w' 5 (blk A) → Below lo w w' → w'.heap.size = w.heap.size → WL P fn F N ks ops tg.tail l fr w') (ht : tg.loud = true := by rfl) (hg : onG ops fr gd = true := by rfl) (hq : tg.calm = false ∨ blk A = tg.row := by exact .inl rfl) :
    WL P fn F N ks ops tg (⟨none, .store t x y, ty, pos, aft, gd⟩ :: l) fr w :=
  wl_stK (a := u.toNat) hs hx hown.to_K hy (by rw [List.length_map]; exact hj) (fun w' h1 h2 h3 h4 => hk w' (by
    rw [show (bs.map UInt8.toNat).set j u.toNat = (bs.set j u).map UInt8.toNat from List.map_set.symm] at h1
    exact h1.to_H) h2 h3 h4) ht hg hq
--@ rule load r o_loadCut
theorem o_loadCut {N g i n : Nat} {fr : Fr} {w : World} {ty t t' : TypeId} {x : Operand} {cs vs : List Value} (ha' : ∀ w, (isAgg t).run P w = .ok true w) (hs : ∀ w, (sizeOf t).run P w = .ok n w) (hx : fr.ev x = some (.pointer (some ⟨g, i, none⟩))) (hB : Blk w g t' cs) (hv : (cs.drop i).take n = vs) (hn : vs.length = n) : OpV P N fr w (.load t x) ty (.agg vs.toArray) w := by
  subst hn
  refine o_loadn ha' hs hx (fun j u hj => ?_)
  rw [add_plain, hB.cell]
  rw [← hv] at hj
  have hj2 : j < vs.length := by
    rcases Nat.lt_or_ge j vs.length with h | h
    · exact h
    · rw [List.getElem?_eq_none (by rw [List.length_take]; omega)] at hj; cases hj
  rw [List.getElem?_take_of_lt hj2, List.getElem?_drop] at hj
  exact hj
end
end Go.Proofs.Ythkfjoilhoemmaa
/-
  Acts as they lie in memory; walks: row, bytes, small, do.
-/
namespace Go.Proofs.Ythkfjoilhoemmaa
open Go.RowKit
theorem C_dNewBad {n : Int} (w : World) (h : n < 1 ∨ 16384 < n) :
    CallsR Try.prog 11 [.int .i64 n] w fun v w' => v = .tuple #[.pointer none, .int .i64 2] ∧ Below w.heap.size w w' := by
  refine (K_dNew (n := n) w).mono ?_
  rintro v w' ⟨h1 | ⟨h1, h2, _⟩, hw⟩
  · exact ⟨h1.2, hw⟩
  · omega
theorem C_dNewOk {n : Int} {m : Nat} {Z : List Sec} {Q : List (Option Sec)} (w : World) (hm : n = (m : Int)) (hZ : List.replicate m z256 = Z) (hQ : List.replicate m none = Q) (h1 : 1 ≤ m) (h2 : m ≤ 16384) :
    CallsR Try.prog 11 [.int .i64 n] w fun v w' => ∃ g, v = .tuple #[.pointer (some ⟨g, 0, none⟩), .int .i64 0] ∧ DkAt w' w.heap.size w'.heap.size g Z Q ∧ Below w.heap.size w w' := by
  subst hm; subst hZ; subst hQ
  refine (K_dNew (n := (m : Int)) w).mono ?_
  rintro v w' ⟨h3 | ⟨_, _, g, h4, h5⟩, hw⟩
  · omega
  · exact ⟨g, h4, by simpa using h5, hw⟩
theorem C_dOfBad {B : Option Addr} {b : By} {n cp : Nat} (w : World) (hb : Rd w B b) (hn : n = b.length) (hc : n ≤ cp) (hl : b.length ≤ 4194304 + 1000) (h : ¬ (b.length % 256 = 0 ∧ 256 ≤ b.length ∧ b.length ≤ 4194304)) :
    CallsR Try.prog 24 [.slice B n cp] w fun v w' => v = .tuple #[.pointer none, .int .i64 2] ∧ Below w.heap.size w w' := by
  refine (K_dOf w hb hn hc hl).mono ?_
  rintro v w' ⟨h1 | ⟨h1, _⟩, hw⟩
  · exact ⟨h1.2, hw⟩
  · exact absurd h1 h
theorem C_dOfOk {B : Option Addr} {b : By} {n cp m : Nat} (w : World) (hb : Rd w B b) (hm : b.length = m * 256) (hn : n = b.length) (hc : n ≤ cp) (h1 : 1 ≤ m) (h2 : m ≤ 16384) :
    CallsR Try.prog 24 [.slice B n cp] w fun v w' => ∃ (g : Nat) (S : List Sec), v = .tuple #[.pointer (some ⟨g, 0, none⟩), .int .i64 0] ∧ img S = b ∧ S.length = m ∧ DkAt w' w.heap.size w'.heap.size g S (List.replicate m none) ∧ Below w.heap.size w w' := by
  refine (K_dOf w hb hn hc (by omega)).mono ?_
  rintro v w' ⟨h3 | ⟨_, g, S, h4, h5, h6⟩, hw⟩
  · omega
  · have hSl : S.length = m := by have := img_len S; rw [h5, hm] at this; omega
    rw [hSl] at h6
    exact ⟨g, S, h4, h5, hSl, h6, hw⟩
theorem C_dCrashNone {lo hi g : Nat} {S : List Sec} {C C0 : List (Option Sec)} (w : World) (hd : DkAt w lo hi g S C) (hC0 : List.replicate S.length none = C0) :
    CallsR Try.prog 16 [.pointer (some ⟨g, 0, none⟩), .slice none 0 0] w fun v w' => v = .int .i64 0 ∧ DkAt w' lo hi g S C0 ∧ Chg lo hi w w' :=
  C_dCrash (lo2 := lo) (hi2 := lo) (kp := []) w hd RdBo.nil_ (crash_nil S C) hC0 (.inl (Nat.le_refl _)) rfl (by simp)
theorem C_dWriteNil {a : Int} {B : Option Addr} {n c : Nat} (w : World) :
    CallsR Try.prog 19 [.pointer none, .int .i64 a, .slice B n c] w fun v w' => v = .int .i64 1 ∧ Below w.heap.size w w' := by
  refine callsR Try.func19 rfl rfl (by kernel_rfl) rfl ?_
  have hw := Below.refl w.heap.size w
  refine rk_seq ?_
  refine rk_region ?_
  refine wl_p (fun _ => o_assign rfl) ?_
  refine wl_nil ?_
  refine rk_seq ?_
  refine rk_seq ?_
  refine rk_region ?_
  refine wl_p (fun _ => o_move rfl) ?_
  refine wl_p (fun _ => o_move rfl) ?_
  refine wl_call rfl (C_checkNil _) ?_
  rintro v10 w10 ⟨rfl, rfl⟩
  refine wl_p (fun _ => o_assign rfl) ?_
  refine wl_nil ?_
  refine rk_seq ?_
  refine rk_region ?_
  refine wl_p (fun _ => o_move rfl) ?_
  refine wl_p (fun _ => o_ne rfl rfl) ?_
  refine wl_nil ?_
  refine rk_true rfl ?_
  refine rk_seq ?_
  refine rk_region ?_
  refine wl_p (fun _ => o_move rfl) ?_
  refine wl_p (fun _ => o_assign rfl) ?_
  refine wl_nil ?_
  refine ret1 rfl rfl ?_
  exact ⟨rfl, hw⟩
theorem C_dWriteN {lo hi g n cp : Nat} {S : List Sec} {C : List (Option Sec)} {r : List (Option Sec) × Nat} {a : Int} {B : Option Addr} {b : By} (w : World) (hd : DkAt w lo hi g S C) (hb : Rd w B b) (hr : wrC S C a b = r) (wa : (Lit.int .i64 a).wf = true) (hn : n = b.length) (hc : n ≤ cp) :
    CallsR Try.prog 19 [.pointer (some ⟨g, 0, none⟩), .int .i64 a, .slice B n cp] w fun v w' => v = .int .i64 (r.2 : Int) ∧ DkAt w' lo hi g S r.1 ∧ Chg lo hi w w' := by
  refine (K_dWrite w hd hb wa hn hc).mono ?_
  rintro v w' ⟨C1, e1, rfl, h1, h2, h3⟩
  rw [hr] at h1
  subst h1
  exact ⟨rfl, h2, h3⟩
theorem C_dReadN {lo hi g : Nat} {S : List Sec} {C : List (Option Sec)} {a : Int} {r : By × Nat} (w : World) (hd : DkAt w lo hi g S C) (hr : rdD S C a = r) (wa : (Lit.int .i64 a).wf = true) :
    CallsR Try.prog 13 [.pointer (some ⟨g, 0, none⟩), .int .i64 a] w fun v w' => ∃ (A : Option Addr) (c : Nat), v = .tuple #[.slice A r.1.length c, .int .i64 (r.2 : Int)] ∧ RdB w' w.heap.size w'.heap.size A r.1 ∧ r.1.length ≤ c ∧ Below w.heap.size w w' := by
  refine (K_dRead w hd wa).mono ?_
  rintro v w' ⟨A, c, r1, e1, rfl, h1, h2, h3⟩
  rw [hr] at h1
  subst h1
  exact ⟨A, c, rfl, h2, h3⟩
/-- What an act writes. -/
def rowB (b : UInt8) : By := List.replicate 256 b
def actB (b : UInt8) (long : Bool) : By := if long then (rowB b).set b.toNat (b + 1) ++ [1] else (rowB b).set b.toNat (b + 1)
set_option maxRecDepth 100000 in
theorem C_row {b : UInt8} {x : Int} {r : By} (w : World) (hx : x = (b.toNat : Int)) (hr : rowB b = r) :
    CallsR Try.prog 12 [.int .u8 x] w fun v w' => ∃ A c, v = .slice A r.length c ∧ OwnH w' w.heap.size w'.heap.size A c r ∧ r.length = 256 ∧ Below w.heap.size w w' := by
  subst hx
  refine callsR Try.func12 rfl rfl (by kernel_rfl) rfl ?_
  have hw := Below.refl w.heap.size w
  obtain ⟨Z, hZ⟩ : ∃ Z : By, List.replicate 256 0 = Z := ⟨_, rfl⟩
  have hZl : Z.length = 256 := by rw [← hZ, List.length_replicate]
  refine rk_seq ?_
  refine rk_region ?_
  refine wl_p (fun _ => o_assign rfl) ?_
  refine wl_nil ?_
  refine rk_seq ?_
  refine rk_region ?_
  refine wl_mkBz (256) rfl rfl (by omega) (by rfl) (by omega) hZ ?_
  rintro A5 w5 f5 b5
  have qf5 := f5.cap
  have s5 := b5.size
  replace hw := hw.trans (b5.mono hw.size)
  refine wl_p (fun _ => o_assign rfl) ?_
  refine wl_nil ?_
  refine rk_seq ?_
  refine rk_seq ?_
  refine rk_region ?_
  refine wl_p (fun _ => o_assign rfl) ?_
  refine wl_nil ?_
  refine rk_block ?_
  refine rk_joinf (fun fb fr W => fr = [] ++ fb.drop 1 ∧ OwnH W w.heap.size W.heap.size A5 256 r ∧ Below w.heap.size w W) ?_ (fun ks hj => ?_)
  rotate_left
  · refine rk_loopf (fun fb m fr W => ∃ (i : Nat) (v : Int) (q : By), fr = [(4, .int .i64 v)] ++ fb.drop 1 ∧ v = i ∧ i ≤ 256 ∧ m = 256 - i ∧ q.length = 256 ∧ q.take i = List.replicate i b ∧ OwnH W w.heap.size W.heap.size A5 256 q ∧ Below w.heap.size w W) (n := 256) (Fr.le_of (by kernel_rfl) (by kernel_rfl) (by repeat' constructor)) ⟨0, _, Z, rfl, rfl, by omega, rfl, hZl, by simp, f5, hw⟩ ?_
    clear f5 hw
    rintro m fr W ⟨i, v, q, rfl, rfl, hi, rfl, hql, hq, f5, hw⟩
    first | refine rk_frame (by simp only [List.cons_append, List.nil_append, List.drop_succ_cons, List.drop_zero]; rfl) ?_ | refine wl_frame (by simp only [List.cons_append, List.nil_append, List.drop_succ_cons, List.drop_zero]; rfl) ?_
    refine rk_seq ?_
    refine rk_seq ?_
    refine rk_region ?_
    refine wl_p (fun _ => o_move rfl) ?_
    refine wl_p (fun _ => o_move rfl) ?_
    refine wl_p (fun _ => o_len (t := 32) Try.underlying32 rfl) ?_
    refine wl_p (fun _ => o_lt rfl rfl) ?_
    refine wl_nil ?_
    refine rk_if rfl (fun h9 => ?_) (fun h9 => ?_)
    · have hiq : i < q.length := by omega
      refine rk_skip ?_
      refine rk_seq ?_
      refine rk_block ?_
      refine rk_region ?_
      refine wl_p (fun _ => o_move rfl) ?_
      refine wl_p (fun _ => o_move rfl) ?_
      refine wl_p (fun _ => o_move rfl) ?_
      refine wl_p (fun _ => (o_iaddrA1 (i) Try.underlying32 Try.sizeOf5 rfl rfl rfl (f5.some_ (by omega)) (by omega))) ?_
      refine wl_stO Try.sizeOf5 rfl f5 rfl (by omega) ?_
      rintro w_1 f g b_1 e
      have qf := f.cap
      have s := g.size
      replace hw := hw.trans (b_1.mono (by omega))
      clear f5
      refine wl_nil ?_
      refine rk_blk ?_
      refine rk_region ?_
      refine wl_p (fun _ => o_move rfl) ?_
      refine wl_p (fun _ => o_add rfl rfl (by omega) (by omega)) ?_
      refine wl_p (fun _ => o_assign rfl) ?_
      refine wl_nil ?_
      have e : (q.set i b).take (i + 1) = List.replicate (i + 1) b := by
        rw [List.take_succ_eq_append_getElem (by rw [List.length_set]; omega), List.take_set_of_le (Nat.le_refl _), hq, List.getElem_set_self, ← List.replicate_succ']
      exact rk_againf (Fr.le_of (by kernel_rfl) (by kernel_rfl) (by repeat' constructor)) ⟨i + 1, (i : Int) + 1, q.set i b, rfl, by omega, by omega, rfl, by rw [List.length_set]; exact hql, e, (show OwnH _ w.heap.size W.heap.size A5 256 (q.set i b) by assumption).base (Nat.le_refl _) (by omega), hw⟩ (by omega)
    · refine rk_exit rfl ?_
      obtain rfl : i = 256 := by omega
      rw [List.take_of_length_le (by omega)] at hq
      have e : q = r := by rw [hq, ← hr]; rfl
      subst e
      exact rk_tof hj (Fr.le_of (by kernel_rfl) (by kernel_rfl) (by repeat' constructor)) ⟨rfl, f5, hw⟩
  clear f5 hw
  rintro fr W ⟨rfl, f5, hw⟩
  have hrl : r.length = 256 := by rw [← hr, rowB, List.length_replicate]
  first | refine rk_frame (by simp only [List.cons_append, List.nil_append, List.drop_succ_cons, List.drop_zero]; rfl) ?_ | refine wl_frame (by simp only [List.cons_append, List.nil_append, List.drop_succ_cons, List.drop_zero]; rfl) ?_
  refine rk_seq ?_
  refine rk_region ?_
  refine wl_p (fun _ => o_move rfl) ?_
  refine wl_p (fun _ => o_assign rfl) ?_
  refine wl_nil ?_
  refine ret1 rfl rfl ?_
  exact ⟨A5, 256, by rw [hrl], f5, hrl, hw⟩
/-- Kind, At, B, Long, Keep. -/
abbrev DAct := Int × Int × UInt8 × Bool × List Bool
def gDAct : GoT DAct := ((gInt .i64).pair ((gInt .i64).pair ((gInt .u8).pair (gBool.pair (GoT.slice 4 gBool))))).map (fun p => (p.1, p.2.1, UInt8.ofNat p.2.2.1.toNat, p.2.2.2))
theorem rsl_bools {w : World} {A : Option Addr} {l : List Bool} (h : RSl gBool w A l) : Reads w 1 A l.length (l.map Value.bool) := by
  obtain ⟨xs, h1, h2⟩ := h
  have hl : xs.length = l.length := by have := h1.1; simpa [gBool, GoT.flat] using this
  have e : xs = l.map Value.bool := by
    apply List.ext_getElem
    · rw [hl, List.length_map]
    · intro i hi1 hi2
      obtain ⟨h3, _⟩ := h2 i (by omega)
      have h4 : part xs 1 i = [xs[i]] := by
        unfold part
        rw [Nat.mul_one, List.drop_eq_getElem_cons hi1]; rfl
      have h5 : part xs 1 i = [Value.bool l[i]] := h3
      rw [h4] at h5
      rw [List.getElem_map]
      injection h5
  rw [← e]; exact h1
theorem gDAct_R {w : World} {cs : List Value} {a : DAct} (h : gDAct.R w cs a) : ∃ A c, cs = [.int .i64 a.1, .int .i64 a.2.1, .int .u8 (a.2.2.1.toNat : Int), .bool a.2.2.2.1, .slice A a.2.2.2.2.length c] ∧ RdBo w 0 w.heap.size A a.2.2.2.2 ∧ a.2.2.2.2.length ≤ c ∧ c ≤ maxLen ∧ (Lit.int .i64 a.1).wf = true ∧ (Lit.int .i64 a.2.1).wf = true := by
  obtain ⟨⟨k, t, x, lg, kp⟩, rfl, c1, c2, rfl, ⟨rfl, w1⟩, c3, c4, rfl, ⟨rfl, w2⟩, c5, c6, rfl, ⟨rfl, w3⟩, c7, c8, rfl, ⟨rfl, _⟩, h5⟩ := h
  obtain ⟨A, c, rfl, h6, h7, h8⟩ := slice_RSl h5
  have hb := bounds_u8 w3
  have e : ((UInt8.ofNat x.toNat).toNat : Int) = x := by
    have hn : x.toNat < 256 := by simp only at hb; omega
    rw [UInt8.toNat_ofNat_of_lt' hn]; simp only at hb; omega
  refine ⟨A, c, ?_, .of (rsl_bools h6), h7, h8, w1, w2⟩
  show _ = [_, _, Value.int .u8 ((UInt8.ofNat x.toNat).toNat : Int), _, _]
  rw [e]; rfl
theorem opens_DAct : Opens Try.prog 35 gDAct :=
  opens_map (opens_struct Try.underlying35 (by kernel_rfl) (.more (opens_int Try.underlying3 (by kernel_rfl)) rfl (.more (opens_int Try.underlying3 (by kernel_rfl)) rfl (.more (opens_int Try.underlying5 (by kernel_rfl)) rfl (.more (opens_bool Try.underlying4 (by kernel_rfl)) rfl
    (.one (opens_slice Try.underlying31 (by kernel_rfl) (by decide) (opens_bool Try.underlying4 (by kernel_rfl))) rfl))))))
--@ arg headwaterlaw07.Act arg_DAct
theorem arg_DAct {H : Type} {enc : TypeId × Value → H} {W : World} {base : Nat} {v : Value} {d : DataW H} {p : List MemPlace} (hok : Value.okWide Try.prog W .any base 35 v) (h : DataW.Trod enc Try.prog W 0 (fun _ => true) true 35 v d p) :
    ∃ (k t : Int) (b : UInt8) (lg : Bool) (K : Option Addr) (c : Nat) (kp : List Bool), v = .agg #[.int .i64 k, .int .i64 t, .int .u8 (b.toNat : Int), .bool lg, .slice K kp.length c] ∧ Reads W 1 K kp.length (kp.map Value.bool) ∧ kp.length ≤ c ∧ c ≤ maxLen ∧ (Lit.int .i64 k).wf = true ∧ (Lit.int .i64 t).wf = true := by
  obtain ⟨cs, a, rfl, h1⟩ := open_agg opens_DAct (.inl ⟨_, Try.underlying35⟩) hok h
  obtain ⟨K, c, rfl, h2, h3, h4, h5, h6⟩ := gDAct_R h1
  exact ⟨_, _, _, _, K, c, _, rfl, h2.r, h3, h4, h5, h6⟩
--@ arg []headwaterlaw07.Act arg_DActs
theorem arg_DActs {H : Type} {enc : TypeId × Value → H} {W : World} {base : Nat} {v : Value} {d : DataW H} {p : List MemPlace} (hok : Value.okWide Try.prog W .any base 22 v) (h : DataW.Trod enc Try.prog W 0 (fun _ => true) true 22 v d p) :
    ∃ (A : Option Addr) (c : Nat) (L : List DAct), v = .slice A L.length c ∧ RSl gDAct W A L ∧ L.length ≤ c ∧ c ≤ maxLen := by
  obtain ⟨L, h1⟩ := open_slc (X := GoT.slice 35 gDAct) (opens_slice Try.underlying22 (by kernel_rfl) (by decide) opens_DAct) Try.underlying22 hok h
  obtain ⟨A, c, e, h2, h3, h4⟩ := slice_RSl h1
  injection e with e
  exact ⟨A, c, L, e, h2, h3, h4⟩
def RDA (w : World) (A : Option Addr) (L : List DAct) : Prop := RSl gDAct w A L
section
variable {w w' : World} {A : Option Addr} {L : List DAct}
theorem RDA.u (h : RDA w A L) (hb : Below w.heap.size w w') : RDA w' A L := RSl.u h hb
theorem RDA.d (h : RDA w A L) : RDA w.drew A L := RSl.u h (below_drew w)
theorem RDA.some_ (h : RDA w A L) (hl : 0 < L.length) : A = some (A.getD ⟨0, 0, none⟩) := RSl.some_ h (show 0 < 5 by decide) hl
theorem RDA.elem (h : RDA w A L) {i : Nat} (hi : i < L.length) : ∃ A1 c1, CellsAt w A (i * 5) [.int .i64 L[i].1, .int .i64 L[i].2.1, .int .u8 (L[i].2.2.1.toNat : Int), .bool L[i].2.2.2.1, .slice A1 L[i].2.2.2.2.length c1] ∧ RdBo w 0 w.heap.size A1 L[i].2.2.2.2 ∧ L[i].2.2.2.2.length ≤ c1 ∧ c1 ≤ maxLen ∧
    (Lit.int .i64 L[i].1).wf = true ∧ (Lit.int .i64 L[i].2.1).wf = true := by
  obtain ⟨cs, h1, h2⟩ := RSl.elem h (show 0 < 5 by decide) hi
  obtain ⟨A1, c1, rfl, h3⟩ := gDAct_R h2
  exact ⟨A1, c1, h1, h3⟩
end
section
variable {fn : Func} {F : Ending → World → Prop} {N : Nat} {ks : List K} {ops : Array Oper} {tg : Tags} {l : List Oper} {fr : Fr} {w w0 : World} {ty : TypeId} {pos : String} {aft : Array Edge} {gd : Option (Nat × Bool)} {d j : Nat} {x : Operand} {A : Option Addr} {L : List DAct}
--@ rule load l wl_ldKeep
theorem wl_ldKeep (hx : fr.ev x = some (.pointer (some (adr A (j * 5 + 4))))) (hr : RDA w0 A L) (hb : Below w0.heap.size w0 w) (hj : j < L.length)
    (hk : ∀ A1 c1, RdBo w0 0 w0.heap.size A1 L[j].2.2.2.2 → L[j].2.2.2.2.length ≤ c1 → c1 ≤ maxLen → WL Try.prog fn F N ks ops tg.tail l ((d, .slice A1 L[j].2.2.2.2.length c1) :: fr) w)
    (ht : tg.reads = true := by rfl) (hg : onG ops fr gd = true := by rfl) (hd : Nat.blt d N = true := by rfl) : WL Try.prog fn F N ks ops tg (⟨some d, .load 31 x, ty, pos, aft, gd⟩ :: l) fr w := by
  obtain ⟨A1, c1, h1, h2, h3, h4, _⟩ := hr.elem hj
  exact wl_r (o_load (t := 31) Try.isAgg31 hx (h1.u hb 4 _ rfl)) (hk A1 c1 h2 h3 h4) ht hg hd
--@ rule load l wl_ldDAct
theorem wl_ldDAct (hx : fr.ev x = some (.pointer (some (adr A (j * 5))))) (hr : RDA w0 A L) (hb : Below w0.heap.size w0 w) (hj : j < L.length)
    (hk : ∀ A1 c1, RdBo w0 0 w0.heap.size A1 L[j].2.2.2.2 → L[j].2.2.2.2.length ≤ c1 → c1 ≤ maxLen → (Lit.int .i64 L[j].1).wf = true → (Lit.int .i64 L[j].2.1).wf = true →
      WL Try.prog fn F N ks ops tg.tail l ((d, .agg #[.int .i64 L[j].1, .int .i64 L[j].2.1, .int .u8 (L[j].2.2.1.toNat : Int), .bool L[j].2.2.2.1, .slice A1 L[j].2.2.2.2.length c1]) :: fr) w)
    (ht : tg.reads = true := by rfl) (hg : onG ops fr gd = true := by rfl) (hd : Nat.blt d N = true := by rfl) : WL Try.prog fn F N ks ops tg (⟨some d, .load 35 x, ty, pos, aft, gd⟩ :: l) fr w := by
  obtain ⟨A1, c1, h1, h2, h3, h4, w1, w2⟩ := hr.elem hj
  refine wl_r (o_loadn (cs := [.int .i64 L[j].1, .int .i64 L[j].2.1, .int .u8 (L[j].2.2.1.toNat : Int), .bool L[j].2.2.2.1, .slice A1 L[j].2.2.2.2.length c1]) Try.isAgg35 Try.sizeOf35 hx (fun i u hu => ?_)) (hk A1 c1 h2 h3 h4 w1 w2) ht hg hd
  rw [adr_add]
  exact h1.u hb i u hu
end
def smallA (L : List DAct) : Prop := L.length ≤ 80 ∧ ∀ a ∈ L, a.2.2.2.2.length ≤ 80
set_option maxRecDepth 100000 in
theorem C_small {A : Option Addr} {L : List DAct} {n c : Nat} (w : World) (hL : RDA w A L) (hn : n = L.length) (hm : n ≤ maxLen) :
    CallsR Try.prog 9 [.slice A n c] w fun v w' => ∃ b, v = .bool b ∧ (b = true ↔ smallA L) ∧ Below w.heap.size w w' := by
  subst hn
  refine callsR Try.func9 rfl rfl (by kernel_rfl) rfl ?_
  have hw := Below.refl w.heap.size w
  refine rk_seq ?_
  refine rk_region ?_
  refine wl_p (fun _ => o_assign rfl) ?_
  refine wl_nil ?_
  refine rk_seq ?_
  refine rk_seq ?_
  refine rk_region ?_
  refine wl_p (fun _ => o_assign rfl) ?_
  refine wl_nil ?_
  refine rk_block ?_
  refine rk_joinf (fun fb fr W => fr = [] ++ fb.drop 1 ∧ (L.length ≤ 80 → ∀ a ∈ L, a.2.2.2.2.length ≤ 80) ∧ Below w.heap.size w W) ?_ (fun ks hj => ?_)
  rotate_left
  · refine rk_loopf (fun fb m fr W => ∃ (i : Nat) (v : Int), fr = [(3, .int .i64 v)] ++ fb.drop 1 ∧ v = i ∧ i ≤ L.length ∧ i ≤ 81 ∧ m = 81 - i ∧ (∀ a ∈ L.take i, a.2.2.2.2.length ≤ 80) ∧ Below w.heap.size w W) (n := 81) (Fr.le_of (by kernel_rfl) (by kernel_rfl) (by repeat' constructor)) ⟨0, _, rfl, rfl, by omega, by omega, rfl, by simp, hw⟩ ?_
    clear hw
    rintro m fr W ⟨i, v, rfl, rfl, hi, hi2, rfl, hall, hw⟩
    by_cases hil : i < L.length
    · first | refine rk_frame (by simp only [List.cons_append, List.nil_append, List.drop_succ_cons, List.drop_zero]; rfl) ?_ | refine wl_frame (by simp only [List.cons_append, List.nil_append, List.drop_succ_cons, List.drop_zero]; rfl) ?_
      refine rk_seq ?_
      refine rk_seq ?_
      refine rk_region ?_
      refine wl_p (fun _ => o_move rfl) ?_
      refine wl_p (fun _ => o_move rfl) ?_
      refine wl_p (fun _ => o_len (t := 22) Try.underlying22 rfl) ?_
      refine wl_p (fun _ => o_lt rfl rfl) ?_
      refine wl_p (fun _ => o_move rfl) ?_
      refine wl_know 8 true rfl (decide_eq_true (by omega)) ?_
      refine wl_p (fun _ => o_move rfl) ?_
      refine wl_p (fun _ => o_le rfl rfl) ?_
      refine wl_p (fun _ => o_pick_t rfl rfl) ?_
      refine wl_nil ?_
      refine rk_if rfl (fun h11 => ?_) (fun h11 => ?_)
      · refine rk_skip ?_
        refine rk_seq ?_
        refine rk_block ?_
        refine rk_seq ?_
        refine rk_region ?_
        refine wl_p (fun _ => o_move rfl) ?_
        refine wl_p (fun _ => o_move rfl) ?_
        refine wl_p (fun _ => (o_iaddrA (i) Try.underlying22 Try.sizeOf35 rfl rfl rfl (hL.some_ (by omega)) (by omega))) ?_
        refine wl_p (fun _ => (o_faddrR rfl Try.underlying35 (by rfl) Try.sizeOf31 (by rfl) (by rfl))) ?_
        refine wl_ldKeep rfl hL hw (by omega) ?_
        rintro A118 c118 f18 i18 i18_1
        refine wl_p (fun _ => o_len (t := 31) Try.underlying31 rfl) ?_
        refine wl_p (fun _ => o_gt rfl rfl) ?_
        refine wl_nil ?_
        refine rk_if rfl (fun h20 => ?_) (fun h20 => ?_)
        · refine rk_seq ?_
          refine rk_region ?_
          refine wl_p (fun _ => o_assign rfl) ?_
          refine wl_nil ?_
          refine ret1 rfl rfl ?_
          refine ⟨false, rfl, ⟨fun h => (by cases h), fun h => ?_⟩, hw⟩
          have := h.2 _ (List.getElem_mem hil)
          omega
        · refine rk_skip ?_
          refine rk_blk ?_
          refine rk_region ?_
          refine wl_p (fun _ => o_move rfl) ?_
          refine wl_p (fun _ => o_add rfl rfl (by omega) (by omega)) ?_
          refine wl_p (fun _ => o_assign rfl) ?_
          refine wl_nil ?_
          refine rk_againf (Fr.le_of (by kernel_rfl) (by kernel_rfl) (by repeat' constructor)) ⟨i + 1, _, rfl, by omega, by omega, by omega, rfl, ?_, hw⟩ (by omega)
          rw [List.take_succ_eq_append_getElem hil]
          intro a ha
          rcases List.mem_append.1 ha with ha | ha
          · exact hall a ha
          · rw [List.mem_singleton] at ha; subst ha; omega
      · refine rk_exit rfl ?_
        exact rk_tof hj (Fr.le_of (by kernel_rfl) (by kernel_rfl) (by repeat' constructor)) ⟨rfl, fun h => by omega, hw⟩
    · first | refine rk_frame (by simp only [List.cons_append, List.nil_append, List.drop_succ_cons, List.drop_zero]; rfl) ?_ | refine wl_frame (by simp only [List.cons_append, List.nil_append, List.drop_succ_cons, List.drop_zero]; rfl) ?_
      refine rk_seq ?_
      refine rk_seq ?_
      refine rk_region ?_
      refine wl_p (fun _ => o_move rfl) ?_
      refine wl_p (fun _ => o_move rfl) ?_
      refine wl_p (fun _ => o_len (t := 22) Try.underlying22 rfl) ?_
      refine wl_p (fun _ => o_lt rfl rfl) ?_
      refine wl_p (fun _ => o_move rfl) ?_
      refine wl_know 8 false rfl (decide_eq_false (by omega)) ?_
      refine wl_off ?_
      refine wl_off ?_
      refine wl_p (fun _ => o_pick_f rfl rfl) ?_
      refine wl_nil ?_
      refine rk_false rfl ?_
      refine rk_exit rfl ?_
      rw [List.take_of_length_le (by omega)] at hall
      exact rk_tof hj (Fr.le_of (by kernel_rfl) (by kernel_rfl) (by repeat' constructor)) ⟨rfl, fun _ => hall, hw⟩
  clear hw
  rintro fr W ⟨rfl, hall, hw⟩
  first | refine rk_frame (by simp only [List.cons_append, List.nil_append, List.drop_succ_cons, List.drop_zero]; rfl) ?_ | refine wl_frame (by simp only [List.cons_append, List.nil_append, List.drop_succ_cons, List.drop_zero]; rfl) ?_
  refine rk_seq ?_
  refine rk_region ?_
  refine wl_p (fun _ => o_move rfl) ?_
  refine wl_p (fun _ => o_len (t := 22) Try.underlying22 rfl) ?_
  refine wl_p (fun _ => o_le rfl rfl) ?_
  refine wl_p (fun _ => o_assign rfl) ?_
  refine wl_nil ?_
  refine ret1 rfl rfl ?_
  refine ⟨_, rfl, ⟨fun h => ?_, fun h => ?_⟩, hw⟩
  · have h := of_decide_eq_true h; exact ⟨by omega, hall (by omega)⟩
  · have := h.1; exact decide_eq_true (by omega)
theorem u8_succ (b : UInt8) : IntKind.u8.wrap ((b.toNat : Int) + 1) = ((b + 1).toNat : Int) := by
  have h : ∀ c : Fin 256, IntKind.u8.wrap ((c.val : Int) + 1) = ((UInt8.ofNat c.val + 1).toNat : Int) := by decide +kernel
  have := h ⟨b.toNat, b.toNat_lt⟩
  simpa using this
set_option maxRecDepth 100000 in
theorem C_actBytes {k at0 x : Int} {b : UInt8} {lg : Bool} {K : Option Addr} {n c : Nat} {r : By} (w : World) (hx : x = (b.toNat : Int)) (hr : actB b lg = r) :
    CallsR Try.prog 20 [.agg #[.int .i64 k, .int .i64 at0, .int .u8 x, .bool lg, .slice K n c]] w fun v w' => ∃ A c, v = .slice A r.length c ∧ OwnH w' w.heap.size w'.heap.size A c r ∧ r.length ≤ 257 ∧ Below w.heap.size w w' := by
  subst hx
  obtain ⟨q, hq⟩ : ∃ q, rowB b = q := ⟨_, rfl⟩
  have hb := b.toNat_lt
  have hql : q.length = 256 := by rw [← hq, rowB, List.length_replicate]
  refine callsR Try.func20 rfl rfl (by kernel_rfl) rfl ?_
  have hw := Below.refl w.heap.size w
  refine rk_seq ?_
  refine rk_region ?_
  refine wl_boxg [_, _, _, _, _] rfl (by rfl) ?_
  rintro g1 w1 f1 b1 i1 i1_1
  have s1 := b1.size
  replace hw := hw.trans (b1.mono hw.size)
  refine wl_p (fun _ => o_assign rfl) ?_
  refine wl_nil ?_
  refine rk_seq ?_
  refine rk_region ?_
  refine wl_p (fun _ => o_faddr (s := 35) (i := 2) (off := 2) Try.underlying35 rfl Try.sizeOf5 rfl rfl rfl) ?_
  refine wl_r (o_loadbg Try.isAgg5 rfl f1 (by rfl)) ?_
  refine wl_call rfl (C_row _ (by rfl) hq) ?_
  rintro v6 w6 ⟨A6, ⟨c6, ⟨rfl, ⟨f6, ⟨e6, b6⟩⟩⟩⟩⟩
  have qf6 := f6.cap
  have s6 := b6.size
  replace hw := hw.trans (b6.mono hw.size)
  replace f1 := f1.u b6
  refine wl_p (fun _ => o_assign rfl) ?_
  refine wl_nil ?_
  refine rk_seq ?_
  refine rk_region ?_
  refine wl_p (fun _ => o_move rfl) ?_
  refine wl_p (fun _ => o_faddr (s := 35) (i := 2) (off := 2) Try.underlying35 rfl Try.sizeOf5 rfl rfl rfl) ?_
  refine wl_r (o_loadbg Try.isAgg5 rfl f1 (by rfl)) ?_
  refine wl_p (fun _ => o_convi64 (src := 5) (dst := 3) Try.underlying5 Try.underlying3 rfl (by omega) (by omega)) ?_
  refine wl_p (fun _ => o_faddr (s := 35) (i := 2) (off := 2) Try.underlying35 rfl Try.sizeOf5 rfl rfl rfl) ?_
  refine wl_r (o_loadbg Try.isAgg5 rfl f1 (by rfl)) ?_
  refine wl_p (fun _ => o_addw rfl rfl) ?_
  refine wl_p (fun _ => (o_iaddrA1 (b.toNat) Try.underlying32 Try.sizeOf5 rfl rfl rfl (f6.some_ (by omega)) (by omega))) ?_
  rw [u8_succ]
  refine wl_stO Try.sizeOf5 rfl f6 rfl (by omega) ?_
  rintro w_1 f g b_1 e
  have qf := f.cap
  have s := g.size
  replace hw := hw.trans (b_1.mono (by omega))
  replace f1 := f1.y g (by decide)
  clear f6
  refine wl_nil ?_
  refine rk_seq ?_
  refine rk_seq ?_
  refine rk_region ?_
  refine wl_p (fun _ => o_faddr (s := 35) (i := 3) (off := 3) Try.underlying35 rfl Try.sizeOf4 rfl rfl rfl) ?_
  refine wl_r (o_loadbg Try.isAgg4 rfl f1 (by rfl)) ?_
  refine wl_nil ?_
  have hsl : (q.set b.toNat (b + 1)).length = q.length := List.length_set ..
  cases lg with
  | true =>
    refine rk_true rfl ?_
    refine rk_seq ?_
    refine rk_region ?_
    refine wl_p (fun _ => o_move rfl) ?_
    refine wl_litB [1] Try.u8 Try.sizeOf5 Try.zeroValue5 (by rfl) rfl rfl (by rfl) (by rfl) (by rfl) ?_
    rintro A18 w18 f18 b18
    have qf18 := f18.cap
    have s18 := b18.size
    replace hw := hw.trans (b18.mono hw.size)
    replace f1 := f1.u b18
    replace f := f.u b18
    refine wl_appB Try.u8 rfl f (by omega) rfl f18.to_Rd (by rfl) (by omega) (by omega) ?_
    rintro A19 c19 w19 f19 g19 b19 i19
    have qf19 := f19.cap
    have s19 := g19.size
    replace hw := hw.trans (b19.mono (by omega))
    replace f1 := f1.y g19 (by decide)
    replace f18 := f18.k g19.g (f.ap (by omega))
    clear f
    refine wl_p (fun _ => o_assign rfl) ?_
    refine wl_nil ?_
    refine ret1 rfl rfl ?_
    have hsz := hw.size
    have e : q.set b.toNat (b + 1) ++ [1] = r := by rw [← hr, actB, if_pos rfl, hq]
    rw [e] at f19
    exact ⟨A19, c19, by rw [← e], f19.base (by omega) (by omega), by rw [← e, List.length_append, hsl]; simp; omega, hw⟩
  | false =>
    refine rk_false rfl ?_
    refine rk_skip ?_
    refine rk_seq ?_
    refine rk_region ?_
    refine wl_p (fun _ => o_move rfl) ?_
    refine wl_p (fun _ => o_assign rfl) ?_
    refine wl_nil ?_
    refine ret1 rfl rfl ?_
    have hsz := hw.size
    have e : q.set b.toNat (b + 1) = r := by rw [← hr, actB, if_neg (by simp), hq]
    rw [e] at f hsl
    exact ⟨A6, c6, by rw [← hsl], f.base (by omega) (by omega), by omega, hw⟩
end Go.Proofs.Ythkfjoilhoemmaa
/-
  Walks: lives; DiskNil.
-/
namespace Go.Proofs.Ythkfjoilhoemmaa
open Go.RowKit
set_option maxRecDepth 100000 in
theorem C_lives07 (w : World) : CallsR Try.prog 8 [] w fun v w' => v = .bool true ∧ Below w.heap.size w w' := by
  obtain ⟨r1, hr1⟩ : ∃ r, rowB 1 = r := ⟨_, rfl⟩
  obtain ⟨r2, hr2⟩ : ∃ r, rowB 2 = r := ⟨_, rfl⟩
  have l1 : r1.length = 256 := by rw [← hr1, rowB, List.length_replicate]
  have l2 : r2.length = 256 := by rw [← hr2, rowB, List.length_replicate]
  obtain ⟨Z, hZ⟩ : ∃ Z : List Sec, List.replicate 2 z256 = Z := ⟨_, rfl⟩
  obtain ⟨Q, hQ⟩ : ∃ Q : List (Option Sec), List.replicate 2 none = Q := ⟨_, rfl⟩
  have hw1 : wrC Z Q 0 r1 = ([some ⟨r1, l1⟩, none], 0) := by
    rw [wrC, dif_pos ⟨by rw [← hZ]; simp, l1⟩, ← hQ]; rfl
  have hw2 : wrC Z [some ⟨r1, l1⟩, none] 1 r2 = ([some ⟨r1, l1⟩, some ⟨r2, l2⟩], 0) := by
    rw [wrC, dif_pos ⟨by rw [← hZ]; simp, l2⟩]; rfl
  have hZl : Z.length = 2 := by rw [← hZ]; rfl
  obtain ⟨S1, hS1⟩ : ∃ S1, crash Z [some ⟨r1, l1⟩, some ⟨r2, l2⟩] [false, true] = S1 := ⟨_, rfl⟩
  obtain ⟨C0, hC0⟩ : ∃ C0 : List (Option Sec), List.replicate Z.length none = C0 := ⟨_, rfl⟩
  obtain ⟨i1, hi1⟩ : ∃ i1, img S1 = i1 := ⟨_, rfl⟩
  obtain ⟨i2, hi2⟩ : ∃ i2, img Z = i2 := ⟨_, rfl⟩
  have s1 : S1 = [z256, ⟨r2, l2⟩] := by rw [← hS1, ← hZ]; rfl
  have e1 : i1 = List.replicate 256 0 ++ List.replicate 256 2 := by
    rw [← hi1, s1]
    show z256.1 ++ (r2 ++ []) = _
    rw [List.append_nil, ← hr2]; rfl
  have e2 : i2 = List.replicate 256 0 ++ List.replicate 256 0 := by
    rw [← hi2, ← hZ]
    show z256.1 ++ (z256.1 ++ []) = _
    rw [List.append_nil]; rfl
  have n1 : i1.length = 512 := by simp only [e1, List.length_append, List.length_replicate]
  have n2 : i2.length = 512 := by simp only [e2, List.length_append, List.length_replicate]
  have v1 : (i1[0]'(by omega)).toNat = 0 := by
    subst e1; rw [List.getElem_append_left (by rw [List.length_replicate]; omega), List.getElem_replicate]; rfl
  have v2 : (i1[256]'(by omega)).toNat = 2 := by
    subst e1; rw [List.getElem_append_right (by rw [List.length_replicate]; omega), List.getElem_replicate]; rfl
  have v3 : (i2[0]'(by omega)).toNat = 0 := by
    subst e2; rw [List.getElem_append_left (by rw [List.length_replicate]; omega), List.getElem_replicate]; rfl
  have v4 : (i2[256]'(by omega)).toNat = 0 := by
    subst e2; rw [List.getElem_append_right (by rw [List.length_replicate]; omega), List.getElem_replicate]; rfl
  clear s1 e1 e2
  refine callsR Try.func8 rfl rfl (by kernel_rfl) rfl ?_
  have hw := Below.refl w.heap.size w
  refine rk_seq ?_
  refine rk_region ?_
  refine wl_p (fun _ => o_assign rfl) ?_
  refine wl_nil ?_
  refine rk_seq ?_
  refine rk_region ?_
  refine wl_call rfl (C_dNewOk _ (by omega) hZ hQ (by omega) (by omega)) ?_
  rintro v7 w7 ⟨g7, ⟨rfl, ⟨f7, b7⟩⟩⟩
  have s7 := b7.size
  replace hw := hw.trans (b7.mono hw.size)
  refine wl_p (fun _ => o_move rfl) ?_
  refine wl_p (fun _ => o_ext20 rfl) ?_
  refine wl_p (fun _ => o_ext21 rfl) ?_
  refine wl_p (fun _ => o_assign rfl) ?_
  refine wl_p (fun _ => o_assign rfl) ?_
  refine wl_nil ?_
  refine rk_seq ?_
  refine rk_seq ?_
  refine rk_region ?_
  refine wl_p (fun _ => o_move rfl) ?_
  refine wl_p (fun _ => o_ne rfl rfl) ?_
  refine wl_p (fun _ => o_move rfl) ?_
  refine wl_p (fun _ => o_move rfl) ?_
  refine wl_p (fun _ => o_peq_nil (t := 26) Try.underlying26 rfl rfl) ?_
  refine wl_p (fun _ => o_pick_f rfl rfl) ?_
  refine wl_p (fun _ => o_move rfl) ?_
  refine wl_p (fun _ => o_move rfl) ?_
  refine wl_know 16 false rfl (by simp) ?_
  refine wl_call rfl (C_row (b := 1) _ rfl hr1) ?_
  rintro v18 w18 ⟨A18, c18, rfl, f18, i18, b18⟩
  have q18 := f18.cap
  have sb18 := b18.size
  replace hw := hw.trans (b18.mono hw.size)
  replace f7 := f7.u b18
  refine wl_call rfl (C_dWriteN _ f7 f18.to_Rd hw1 (by rfl) rfl (by omega)) ?_
  rintro v19 w19 ⟨rfl, ⟨f19, g19⟩⟩
  dsimp only at f19
  dsimp only
  have s19 := g19.size
  replace hw := hw.trans (g19.below hw.size (by omega))
  replace f18 := f18.c g19 (by omega)
  clear f7
  refine wl_p (fun _ => o_ne rfl rfl) ?_
  refine wl_p (fun _ => o_pick_f rfl rfl) ?_
  refine wl_p (fun _ => o_move rfl) ?_
  refine wl_p (fun _ => o_move rfl) ?_
  refine wl_know 22 false rfl (decide_eq_false (by omega)) ?_
  refine wl_call rfl (C_row (b := 2) _ rfl hr2) ?_
  rintro v24 w24 ⟨A24, c24, rfl, f24, i24, b24⟩
  have q24 := f24.cap
  have sb24 := b24.size
  replace hw := hw.trans (b24.mono hw.size)
  replace f18 := f18.u b24
  replace f19 := f19.u b24
  refine wl_call rfl (C_dWriteN _ f19 f24.to_Rd hw2 (by rfl) rfl (by omega)) ?_
  rintro v25 w25 ⟨rfl, ⟨f25, g25⟩⟩
  dsimp only at f25
  dsimp only
  have s25 := g25.size
  replace hw := hw.trans (g25.below hw.size (by omega))
  replace f18 := f18.c g25 (by omega)
  replace f24 := f24.c g25 (by omega)
  clear f19
  refine wl_p (fun _ => o_ne rfl rfl) ?_
  refine wl_p (fun _ => o_pick_f rfl rfl) ?_
  refine wl_nil ?_
  refine rk_false rfl ?_
  refine rk_skip ?_
  refine rk_seq ?_
  refine rk_region ?_
  refine wl_p (fun _ => o_move rfl) ?_
  refine wl_call rfl (C_dClone _ f25) ?_
  rintro v29 w29 ⟨g29, ⟨rfl, ⟨f29, b29⟩⟩⟩
  have s29 := b29.size
  replace hw := hw.trans (b29.mono hw.size)
  replace f24 := f24.u b29
  replace f18 := f18.u b29
  replace f25 := f25.u b29
  refine wl_p (fun _ => o_assign rfl) ?_
  refine wl_nil ?_
  refine rk_seq ?_
  refine rk_seq ?_
  refine rk_region ?_
  refine wl_p (fun _ => o_move rfl) ?_
  refine wl_litBo (zs := [false, true]) rfl rfl rfl rfl rfl rfl ?_
  rintro A31 w31 f31 b31
  have sb31 := b31.size
  replace hw := hw.trans (b31.mono hw.size)
  replace f25 := f25.u b31
  replace f18 := f18.u b31
  replace f24 := f24.u b31
  replace f29 := f29.u b31
  refine wl_call rfl (C_dCrash _ f29 f31.to_RdBo hS1 hC0 (by omega) (by rfl) (by omega)) ?_
  rintro v32 w32 ⟨rfl, ⟨f32, g32⟩⟩
  have s32 := g32.size
  replace hw := hw.trans (g32.below hw.size (by omega))
  replace f24 := f24.c g32 (by omega)
  replace f18 := f18.c g32 (by omega)
  replace f25 := f25.c g32 (by omega)
  replace f31 := f31.c g32 (by omega)
  clear f29
  refine wl_p (fun _ => o_ne rfl rfl) ?_
  refine wl_p (fun _ => o_move rfl) ?_
  refine wl_p (fun _ => o_move rfl) ?_
  refine wl_call rfl (C_dCrashNone _ f25 hC0) ?_
  rintro v36 w36 ⟨rfl, ⟨f36, g36⟩⟩
  have s36 := g36.size
  replace hw := hw.trans (g36.below hw.size (by omega))
  replace f31 := f31.c g36 (by omega)
  replace f18 := f18.c g36 (by omega)
  replace f24 := f24.c g36 (by omega)
  replace f32 := f32.c g36 (by omega)
  clear f25
  refine wl_p (fun _ => o_ne rfl rfl) ?_
  refine wl_p (fun _ => o_pick_f rfl rfl) ?_
  refine wl_nil ?_
  refine rk_false rfl ?_
  refine rk_skip ?_
  refine rk_seq ?_
  refine rk_region ?_
  refine wl_p (fun _ => o_move rfl) ?_
  refine wl_call rfl (C_dImage _ f32 hi1) ?_
  rintro v40 w40 ⟨A40, ⟨c40, ⟨rfl, ⟨f40, b40⟩⟩⟩⟩
  have qf40 := f40.cap
  have s40 := b40.size
  replace hw := hw.trans (b40.mono hw.size)
  replace f32 := f32.u b40
  replace f24 := f24.u b40
  replace f18 := f18.u b40
  replace f31 := f31.u b40
  replace f36 := f36.u b40
  refine wl_p (fun _ => o_move rfl) ?_
  refine wl_call rfl (C_dImage _ f36 hi2) ?_
  rintro v42 w42 ⟨A42, ⟨c42, ⟨rfl, ⟨f42, b42⟩⟩⟩⟩
  have qf42 := f42.cap
  have s42 := b42.size
  replace hw := hw.trans (b42.mono hw.size)
  replace f36 := f36.u b42
  replace f31 := f31.u b42
  replace f18 := f18.u b42
  replace f24 := f24.u b42
  replace f32 := f32.u b42
  replace f40 := f40.u b42
  refine wl_p (fun _ => o_assign rfl) ?_
  refine wl_p (fun _ => o_assign rfl) ?_
  refine wl_nil ?_
  refine rk_seq ?_
  refine rk_region ?_
  refine wl_p (fun _ => o_move rfl) ?_
  refine wl_p (fun _ => o_len (t := 32) Try.underlying32 rfl) ?_
  refine wl_p (fun _ => o_eq rfl rfl) ?_
  refine wl_p (fun _ => o_move rfl) ?_
  refine wl_know 46 true rfl (decide_eq_true (by omega)) ?_
  refine wl_p (fun _ => o_move rfl) ?_
  refine wl_p (fun _ => (o_iaddrA1 (0) Try.underlying32 Try.sizeOf5 rfl rfl (by omega) (f40.some_ (by omega)) (by omega))) ?_
  refine wl_r (o_loadB Try.isAgg5 rfl f40.to_Rd (by omega)) ?_
  refine wl_p (fun _ => o_eq rfl rfl) ?_
  refine wl_p (fun _ => o_pick_t rfl rfl) ?_
  refine wl_p (fun _ => o_move rfl) ?_
  refine wl_know 52 true rfl (decide_eq_true (by omega)) ?_
  refine wl_p (fun _ => o_move rfl) ?_
  refine wl_p (fun _ => (o_iaddrA1 (256) Try.underlying32 Try.sizeOf5 rfl rfl (by omega) (f40.some_ (by omega)) (by omega))) ?_
  refine wl_r (o_loadB Try.isAgg5 rfl f40.to_Rd (by omega)) ?_
  refine wl_p (fun _ => o_eq rfl rfl) ?_
  refine wl_p (fun _ => o_pick_t rfl rfl) ?_
  refine wl_p (fun _ => o_move rfl) ?_
  refine wl_know 58 true rfl (decide_eq_true (by omega)) ?_
  refine wl_p (fun _ => o_move rfl) ?_
  refine wl_p (fun _ => o_len (t := 32) Try.underlying32 rfl) ?_
  refine wl_p (fun _ => o_eq rfl rfl) ?_
  refine wl_p (fun _ => o_pick_t rfl rfl) ?_
  refine wl_p (fun _ => o_move rfl) ?_
  refine wl_know 63 true rfl (decide_eq_true (by omega)) ?_
  refine wl_p (fun _ => o_move rfl) ?_
  refine wl_p (fun _ => (o_iaddrA1 (0) Try.underlying32 Try.sizeOf5 rfl rfl (by omega) (f42.some_ (by omega)) (by omega))) ?_
  refine wl_r (o_loadB Try.isAgg5 rfl f42.to_Rd (by omega)) ?_
  refine wl_p (fun _ => o_eq rfl rfl) ?_
  refine wl_p (fun _ => o_pick_t rfl rfl) ?_
  refine wl_p (fun _ => o_move rfl) ?_
  refine wl_know 69 true rfl (decide_eq_true (by omega)) ?_
  refine wl_p (fun _ => o_move rfl) ?_
  refine wl_p (fun _ => (o_iaddrA1 (256) Try.underlying32 Try.sizeOf5 rfl rfl (by omega) (f42.some_ (by omega)) (by omega))) ?_
  refine wl_r (o_loadB Try.isAgg5 rfl f42.to_Rd (by omega)) ?_
  refine wl_p (fun _ => o_eq rfl rfl) ?_
  refine wl_p (fun _ => o_pick_t rfl rfl) ?_
  refine wl_p (fun _ => o_assign rfl) ?_
  refine wl_nil ?_
  refine ret1 rfl rfl ?_
  exact ⟨congrArg Value.bool (decide_eq_true (by omega)), hw⟩
theorem Try.rowAct : RowT Try.prog 22 35 (.agg #[.int .i64 0, .int .i64 0, .int .u8 0, .bool false, .slice none 0 0]) 5 48 := ⟨Try.underlying22, by kernel_rfl, rfl, by omega⟩
section
variable {fn : Func} {F : Ending → World → Prop} {N : Nat} {ks : List K} {ops : Array Oper} {tg : Tags} {l : List Oper} {fr : Fr} {w w0 : World} {ty : TypeId} {pos : String} {aft : Array Edge} {gd : Option (Nat × Bool)} {d : Nat}
--@ rule buildSlice l wl_litAct1
/-- A literal of one act. -/
theorem wl_litAct1 {ps : Array (Nat × Operand)} {xs : List Operand} {k t : Int} {b : UInt8} {lg : Bool} {K : Option Addr} {n c : Nat} {kp : List Bool} (hxs : ps.toList.map Prod.snd = xs) (hx : fr.evs xs = some [.agg #[.int .i64 k, .int .i64 t, .int .u8 (b.toNat : Int), .bool lg, .slice K n c]]) (hK : Reads w 1 K kp.length (kp.map Value.bool)) (hn : n = kp.length) (hc : kp.length ≤ c) (hm : c ≤ maxLen) (w1 : (Lit.int .i64 k).wf = true) (w2 : (Lit.int .i64 t).wf = true) (hps : ps = ((List.range' 0 1).zip xs).toArray)
    (hk : ∀ A w', RDA w' A [(k, t, b, lg, kp)] → Below w.heap.size w w' → WL Try.prog fn F N ks ops tg.tail l ((d, .slice A 1 1) :: fr) w')
    (ht : tg.loud = true := by rfl) (hg : onG ops fr gd = true := by rfl) (hd : Nat.blt d N = true := by rfl) : WL Try.prog fn F N ks ops tg (⟨some d, .buildSlice 22 1 ps, ty, pos, aft, gd⟩ :: l) fr w := by
  subst hn
  refine wl_litRS (X := gDAct) (L := [(k, t, b, lg, kp)]) Try.rowAct Try.sizeOf35 Try.zeroValue35 hxs hps hx rfl rfl (fun i h => ?_) rfl hk ht hg hd
  obtain rfl : i = 0 := by simp at h; omega
  refine ⟨_, rfl, rfl, (k, t, (b.toNat : Int), lg, kp), by simp, [_], _, rfl, ⟨rfl, w1⟩, [_], _, rfl, ⟨rfl, w2⟩, [_], _, rfl, ⟨rfl, ?_⟩, [_], _, rfl, ⟨rfl, trivial⟩, K, c, kp.map Value.bool, rfl, hc, hm, hK, fun i hi => ⟨?_, trivial⟩⟩
  · have hb := b.toNat_lt
    simp only [Lit.wf, Bool.and_eq_true, decide_eq_true_eq]
    exact ⟨by show (0 : Int) ≤ _; omega, by show _ ≤ (255 : Int); omega⟩
  · show part (kp.map Value.bool) 1 i = [Value.bool kp[i]]
    have hi2 : i < (kp.map Value.bool).length := by rw [List.length_map]; exact hi
    unfold part
    rw [Nat.mul_one, List.drop_eq_getElem_cons hi2, List.getElem_map]; rfl
end
set_option maxRecDepth 100000 in
theorem C_DiskNil {k t : Int} {b : UInt8} {lg : Bool} {K : Option Addr} {c : Nat} {kp : List Bool} (w : World) (hK : Reads w 1 K kp.length (kp.map Value.bool)) (hc : kp.length ≤ c) (hm : c ≤ maxLen) (w1 : (Lit.int .i64 k).wf = true) (w2 : (Lit.int .i64 t).wf = true) :
    CallsR Try.prog 4 [.agg #[.int .i64 k, .int .i64 t, .int .u8 (b.toNat : Int), .bool lg, .slice K kp.length c]] w fun v w' => v = .bool true ∧ Below w.heap.size w w' := by
  refine callsR Try.func4 rfl rfl (by kernel_rfl) rfl ?_
  have hw := Below.refl w.heap.size w
  refine rk_seq ?_
  refine rk_region ?_
  refine wl_boxg [_, _, _, _, _] rfl (by rfl) ?_
  rintro g1 w1_1 f1 b1 i1 i1_1
  have s1 := b1.size
  replace hw := hw.trans (b1.mono hw.size)
  refine wl_p (fun _ => o_assign rfl) ?_
  refine wl_nil ?_
  refine rk_seq ?_
  refine rk_seq ?_
  refine rk_region ?_
  refine wl_call rfl (C_lives07 _) ?_
  rintro v6 w6 ⟨rfl, b6⟩
  have s6 := b6.size
  replace hw := hw.trans (b6.mono hw.size)
  replace f1 := f1.u b6
  refine wl_p (fun _ => o_not rfl) ?_
  refine wl_nil ?_
  refine rk_false rfl ?_
  refine rk_skip ?_
  refine rk_seq ?_
  refine rk_seq ?_
  refine rk_region ?_
  refine wl_r (o_loadag Try.isAgg35 Try.sizeOf35 rfl f1 (by rfl)) ?_
  refine wl_litAct1 (by rfl) rfl (hK.u hw) rfl (by omega) (by omega) w1 w2 (by rfl) ?_
  rintro A9 w9 f9 b9
  have s9 := b9.size
  replace hw := hw.trans (b9.mono hw.size)
  replace f1 := f1.u b9
  refine wl_call rfl (C_small _ f9 (by rfl) (by decide)) ?_
  rintro v10 w10 ⟨b10, ⟨rfl, ⟨i10, b10_1⟩⟩⟩
  have s10 := b10_1.size
  replace hw := hw.trans (b10_1.mono hw.size)
  replace f1 := f1.u b10_1
  replace f9 := f9.u b10_1
  refine wl_p (fun _ => o_not rfl) ?_
  refine wl_nil ?_
  cases b10 with
  | false =>
    refine rk_true rfl ?_
    refine rk_seq ?_
    refine rk_region ?_
    refine wl_p (fun _ => o_assign rfl) ?_
    refine wl_nil ?_
    refine ret1 rfl rfl ?_
    exact ⟨rfl, hw⟩
  | true =>
    obtain ⟨r, hr⟩ : ∃ r, actB b lg = r := ⟨_, rfl⟩
    refine rk_false rfl ?_
    refine rk_skip ?_
    refine rk_seq ?_
    refine rk_region ?_
    refine wl_p (fun _ => o_assign rfl) ?_
    refine wl_nil ?_
    refine rk_seq ?_
    refine rk_region ?_
    refine wl_p (fun _ => o_move rfl) ?_
    refine wl_p (fun _ => o_faddr (s := 35) (i := 1) (off := 1) Try.underlying35 rfl Try.sizeOf3 rfl rfl rfl) ?_
    refine wl_r (o_loadbg Try.isAgg3 rfl f1 (by rfl)) ?_
    refine wl_call rfl (C_dReadNil _) ?_
    rintro v16 w16 ⟨rfl, b16⟩
    have s16 := b16.size
    replace hw := hw.trans (b16.mono hw.size)
    replace f9 := f9.u b16
    replace f1 := f1.u b16
    refine wl_p (fun _ => o_move rfl) ?_
    refine wl_p (fun _ => o_ext20 rfl) ?_
    refine wl_p (fun _ => o_ext21 rfl) ?_
    refine wl_p (fun _ => o_assign rfl) ?_
    refine wl_p (fun _ => o_assign rfl) ?_
    refine wl_nil ?_
    refine rk_seq ?_
    refine rk_draw (id := 7) (none) [0, 1, 2, 4, 4, 20, 4, 68, 172, 260, 516, 1280, 2048, 6144, 10240, 18432, 40960, 65536, 65536, 327680, 720896, 1114112, 2162688, 5242880, 8388608, 25165824, 41943040, 75497472, 142606336, 301989888, 536870912, 1610612736, 2684354560, 4831838208, 10737418240, 17179869184, 51539607552, 85899345920, 154618822656, 292057776128, 618475290624, 1099511627776, 3298534883328, 5497558138880, 9895604649984, 35184372088831] [0, 1, 3, 7, 7, 23, 7, 71, 255, 511, 1023, 2047, 4095, 8191, 16383, 32767, 65535, 131071, 131071, 393215, 1048575, 2097151, 4194303, 8388607, 16777215, 33554431, 67108863, 134217727, 268435455, 536870911, 1073741823, 2147483647, 4294967295, 8589934591, 17179869183, 34359738367, 68719476735, 137438953471, 274877906943, 549755813887, 1099511627775, 2199023255551, 4398046511103, 8796093022207, 17592186044415, 35184372088831] 4468948083072 128 [(.p, 0), (.p, 1), (.p, 2), (.p, 3), (.p, 4), (.s, 5), (.r, 6), (.c, 7), (.l, 8), (.p, 9), (.p, 10), (.p, 11), (.p, 12), (.l, 13), (.p, 14), (.p, 15), (.p, 16), (.p, 17), (.p, 18), (.r, 19), (.l, 20), (.p, 21), (.p, 22), (.p, 23), (.p, 24), (.l, 25), (.p, 26), (.p, 27), (.p, 28), (.p, 29), (.p, 30), (.l, 31), (.p, 32), (.p, 33), (.p, 34), (.p, 35), (.l, 36), (.p, 37), (.p, 38), (.p, 39), (.p, 40), (.p, 41), (.l, 42), (.p, 43), (.p, 44), (.p, 45)] (by kernel_rfl) (by kernel_rfl) (by kernel_rfl) (by kernel_rfl) (by kernel_rfl) ?_
    replace hw := hw.drew
    replace f1 := f1.d
    replace f9 := f9.d
    refine wl_p (fun _ => o_move rfl) ?_
    refine wl_p (fun _ => o_eq rfl rfl) ?_
    refine wl_p (fun _ => o_move rfl) ?_
    refine wl_p (fun _ => o_move rfl) ?_
    refine wl_p (fun _ => o_faddr (s := 35) (i := 1) (off := 1) Try.underlying35 rfl Try.sizeOf3 rfl rfl rfl) ?_
    refine wl_s (fun _ hk => (o_loadbg Try.isAgg3 rfl (f1.u (below_of_grown_none hk)) (by rfl))) ?_
    refine wl_r (o_loadag Try.isAgg35 Try.sizeOf35 rfl f1 (by rfl)) ?_
    refine wl_call rfl (C_actBytes _ (by rfl) hr) ?_ (hq := .inr fun _ _ h => grown_of_below h.choose_spec.choose_spec.2.2.2 _)
    rintro v26 w26 ⟨A26, ⟨c26, ⟨rfl, ⟨f26, ⟨i26, b26⟩⟩⟩⟩⟩
    simp only [drew_size] at f26
    simp only [drew_size] at b26
    have qf26 := f26.cap
    have s26 := b26.size
    simp only [drew_size] at s26
    replace hw := hw.trans (b26.mono hw.size)
    replace f9 := f9.u b26
    replace f1 := f1.u b26
    refine wl_call rfl (C_dWriteNil _) ?_
    rintro v27 w27 ⟨rfl, b27⟩
    have s27 := b27.size
    replace hw := hw.trans (b27.mono hw.size)
    replace f1 := f1.u b27
    replace f9 := f9.u b27
    replace f26 := f26.u b27
    refine wl_p (fun _ => o_eq rfl rfl) ?_
    refine wl_p (fun _ => o_pick_t rfl rfl) ?_
    refine wl_p (fun _ => o_move rfl) ?_
    refine wl_p (fun _ => o_move rfl) ?_
    refine wl_call rfl (C_dFlushNil _) ?_
    rintro v32 w32 ⟨rfl, b32⟩
    have s32 := b32.size
    replace hw := hw.trans (b32.mono hw.size)
    replace f26 := f26.u b32
    replace f9 := f9.u b32
    replace f1 := f1.u b32
    refine wl_p (fun _ => o_eq rfl rfl) ?_
    refine wl_p (fun _ => o_pick_t rfl rfl) ?_
    refine wl_p (fun _ => o_move rfl) ?_
    refine wl_p (fun _ => o_move rfl) ?_
    refine wl_p (fun _ => o_faddr (s := 35) (i := 4) (off := 4) Try.underlying35 rfl Try.sizeOf31 rfl rfl rfl) ?_
    refine wl_r (o_loadbg Try.isAgg31 rfl f1 (by rfl)) ?_
    refine wl_call rfl (C_dCrashNil _) ?_
    rintro v39 w39 ⟨rfl, b39⟩
    have s39 := b39.size
    replace hw := hw.trans (b39.mono hw.size)
    replace f1 := f1.u b39
    replace f9 := f9.u b39
    replace f26 := f26.u b39
    refine wl_p (fun _ => o_eq rfl rfl) ?_
    refine wl_p (fun _ => o_pick_t rfl rfl) ?_
    refine wl_p (fun _ => o_move rfl) ?_
    refine wl_p (fun _ => o_move rfl) ?_
    refine wl_call rfl (C_dCachedNil _) ?_
    rintro v44 w44 ⟨rfl, b44⟩
    have s44 := b44.size
    replace hw := hw.trans (b44.mono hw.size)
    replace f26 := f26.u b44
    replace f9 := f9.u b44
    replace f1 := f1.u b44
    refine wl_p (fun _ => o_len (t := 41) Try.underlying41 rfl) ?_
    refine wl_p (fun _ => o_eq rfl rfl) ?_
    refine wl_p (fun _ => o_pick_t rfl rfl) ?_
    refine wl_p (fun _ => o_move rfl) ?_
    refine wl_p (fun _ => o_move rfl) ?_
    refine wl_call rfl (C_dSizeNil _) ?_
    rintro v50 w50 ⟨rfl, rfl⟩
    refine wl_p (fun _ => o_eq rfl rfl) ?_
    refine wl_p (fun _ => o_pick_t rfl rfl) ?_
    refine wl_p (fun _ => o_move rfl) ?_
    refine wl_p (fun _ => o_move rfl) ?_
    refine wl_call rfl (C_dImageNil _) ?_
    rintro v55 w55 ⟨rfl, b55⟩
    have s55 := b55.size
    replace hw := hw.trans (b55.mono hw.size)
    replace f1 := f1.u b55
    replace f9 := f9.u b55
    replace f26 := f26.u b55
    refine wl_p (fun _ => o_len (t := 32) Try.underlying32 rfl) ?_
    refine wl_p (fun _ => o_eq rfl rfl) ?_
    refine wl_p (fun _ => o_pick_t rfl rfl) ?_
    refine wl_p (fun _ => o_move rfl) ?_
    refine wl_p (fun _ => o_move rfl) ?_
    refine wl_call rfl (C_dCloneNil _) ?_
    rintro v61 w61 ⟨rfl, b61⟩
    have s61 := b61.size
    replace hw := hw.trans (b61.mono hw.size)
    replace f26 := f26.u b61
    replace f9 := f9.u b61
    replace f1 := f1.u b61
    refine wl_p (fun _ => o_peq_nil (t := 26) Try.underlying26 rfl rfl) ?_
    refine wl_p (fun _ => o_pick_t rfl rfl) ?_
    refine wl_p (fun _ => o_assign rfl) ?_
    refine wl_nild ?_
    refine ret1 rfl rfl ?_
    exact ⟨rfl, hw⟩
end Go.Proofs.Ythkfjoilhoemmaa
/-
  Bytes compared as strings.
-/
namespace Go.Proofs.Ythkfjoilhoemmaa
open Go.RowKit
section
variable {N : Nat} {fr : Fr} {w w0 : World} {ty : TypeId} {x : Operand}
--@ rule convert r o_strS
theorem o_strS {A : Option Addr} {n c : Nat} {l : List UInt8} (hx : fr.ev x = some (.slice A n c)) (hr : Rd w0 A l) (hb : Below w0.heap.size w0 w) (hn : n = l.length) :
    OpV Try.prog N fr w (.convert 32 9 x) ty (.string ⟨l.toArray⟩) w := o_strU Try.underlying32 Try.underlying5 Try.underlying9 hx hr hb hn
end
end Go.Proofs.Ythkfjoilhoemmaa
/-
  Lists of numbers compared.
-/
namespace Go.Proofs.Ythkfjoilhoemmaa
open Go.RowKit
theorem C_IntsZ {A B : Option Addr} {a b : List Int} {n m c d : Nat} (w : World) (hA : RZ w A a) (hB : RZ w B b) (hn : n = a.length) (hm : m = b.length) (hl : a.length ≤ 4000000000) (hl2 : b.length ≤ 4000000000) :
    CallsR Try.prog 23 [.slice A n c, .slice B m d] w fun v w' => v = .bool (decide (a = b)) ∧ Below w.heap.size w w' := by
  subst hn; subst hm
  refine callsR Try.func23 rfl rfl (by kernel_rfl) rfl ?_
  have hw := Below.refl w.heap.size w
  refine rk_seq ?_
  refine rk_region ?_
  refine wl_p (fun _ => o_assign rfl) ?_
  refine wl_nil ?_
  refine rk_seq ?_
  refine rk_seq ?_
  refine rk_region ?_
  refine wl_p (fun _ => o_move rfl) ?_
  refine wl_p (fun _ => o_len (t := 41) Try.underlying41 rfl) ?_
  refine wl_p (fun _ => o_move rfl) ?_
  refine wl_p (fun _ => o_len (t := 41) Try.underlying41 rfl) ?_
  refine wl_p (fun _ => o_ne rfl rfl) ?_
  refine wl_nil ?_
  refine rk_if rfl (fun h10 => ?_) (fun h10 => ?_)
  · refine rk_seq ?_
    refine rk_region ?_
    refine wl_p (fun _ => o_assign rfl) ?_
    refine wl_nil ?_
    refine ret1 rfl rfl ?_
    exact ⟨by rw [decide_eq_false (fun e => by rw [e] at h10; omega)], hw⟩
  · refine rk_skip ?_
    refine rk_seq ?_
    refine rk_seq ?_
    refine rk_region ?_
    refine wl_p (fun _ => o_assign rfl) ?_
    refine wl_nil ?_
    refine rk_block ?_
    refine rk_joinf (fun fb fr w2 => fr = [] ++ fb.drop 1 ∧ a = b ∧ Below w.heap.size w w2) ?_ (fun ks hj => ?_)
    rotate_left
    · refine rk_loopf (fun fb k fr w2 => ∃ (i : Nat) (v : Int), fr = [(5, .int .i64 v)] ++ fb.drop 1 ∧ v = i ∧ i ≤ a.length ∧ k = a.length - i ∧ a.take i = b.take i ∧ Below w.heap.size w w2) (n := a.length) (Fr.le_of (by kernel_rfl) (by kernel_rfl) (by repeat' constructor)) ⟨0, _, rfl, rfl, by omega, rfl, rfl, hw⟩ ?_
      clear hw
      rintro k fr w2 ⟨i, v, rfl, rfl, hi, rfl, heq, hw⟩
      first | refine rk_frame (by simp only [List.cons_append, List.nil_append, List.drop_succ_cons, List.drop_zero]; rfl) ?_ | refine wl_frame (by simp only [List.cons_append, List.nil_append, List.drop_succ_cons, List.drop_zero]; rfl) ?_
      refine rk_seq ?_
      refine rk_seq ?_
      refine rk_region ?_
      refine wl_p (fun _ => o_move rfl) ?_
      refine wl_p (fun _ => o_move rfl) ?_
      refine wl_p (fun _ => o_len (t := 41) Try.underlying41 rfl) ?_
      refine wl_p (fun _ => o_lt rfl rfl) ?_
      refine wl_nil ?_
      refine rk_if rfl (fun h14 => ?_) (fun h14 => ?_)
      · have h1 : i < a.length := by omega
        have h2 : i < b.length := by omega
        refine rk_skip ?_
        refine rk_seq ?_
        refine rk_block ?_
        refine rk_seq ?_
        refine rk_draw (id := 6) (none) [0, 0, 3, 4, 0, 0, 48, 64, 136] [0, 0, 3, 7, 0, 0, 48, 112, 255] 0 0 [(.p, 0), (.p, 1), (.p, 2), (.r, 3), (.p, 4), (.p, 5), (.p, 6), (.r, 7), (.p, 8)] (by kernel_rfl) (by kernel_rfl) (by kernel_rfl) (by kernel_rfl) (by kernel_rfl) ?_
        replace hw := hw.drew
        refine wl_p (fun _ => o_move rfl) ?_
        refine wl_p (fun _ => o_move rfl) ?_
        refine wl_p (fun _ => (o_iaddrA1 (i) Try.underlying41 Try.sizeOf3 rfl rfl rfl (Reads.some_ hA.to_Reads (by decide) (by omega)) (by omega))) ?_
        refine wl_r (o_loadZ Try.isAgg3 rfl (hA.u hw).to_Reads (by omega)) ?_
        refine wl_p (fun _ => o_move rfl) ?_
        refine wl_p (fun _ => o_move rfl) ?_
        refine wl_p (fun _ => (o_iaddrA1 (i) Try.underlying41 Try.sizeOf3 rfl rfl rfl (Reads.some_ hB.to_Reads (by decide) (by omega)) (by omega))) ?_
        refine wl_r (o_loadZ Try.isAgg3 rfl (hB.u hw).to_Reads (by omega)) ?_
        refine wl_p (fun _ => o_ne rfl rfl) ?_
        refine wl_nild ?_
        refine rk_if rfl (fun h25 => ?_) (fun h25 => ?_)
        · refine rk_seq ?_
          refine rk_region ?_
          refine wl_p (fun _ => o_assign rfl) ?_
          refine wl_nil ?_
          refine ret1 rfl rfl ?_
          exact ⟨by rw [decide_eq_false (fun e => by subst e; exact h25 rfl)], hw⟩
        · refine rk_skip ?_
          refine rk_blk ?_
          refine rk_region ?_
          refine wl_p (fun _ => o_move rfl) ?_
          refine wl_p (fun _ => o_add rfl rfl (by omega) (by omega)) ?_
          refine wl_p (fun _ => o_assign rfl) ?_
          refine wl_nil ?_
          exact rk_againf (Fr.le_of (by kernel_rfl) (by kernel_rfl) (by repeat' constructor)) ⟨i + 1, _, rfl, by omega, by omega, rfl, by rw [List.take_succ_eq_append_getElem h1, List.take_succ_eq_append_getElem h2, heq]; simp at h25; rw [h25], hw⟩ (by omega)
      · refine rk_exit rfl ?_
        obtain rfl : i = a.length := by omega
        have e : a = b := by
          rw [List.take_length] at heq
          rw [heq]; exact List.take_of_length_le (by omega)
        exact rk_tof hj (Fr.le_of (by kernel_rfl) (by kernel_rfl) (by repeat' constructor)) ⟨rfl, e, hw⟩
    clear hw
    rintro fr w2 ⟨rfl, e, hw⟩
    first | refine rk_frame (by simp only [List.cons_append, List.nil_append, List.drop_succ_cons, List.drop_zero]; rfl) ?_ | refine wl_frame (by simp only [List.cons_append, List.nil_append, List.drop_succ_cons, List.drop_zero]; rfl) ?_
    refine rk_seq ?_
    refine rk_region ?_
    refine wl_p (fun _ => o_assign rfl) ?_
    refine wl_nil ?_
    refine ret1 rfl rfl ?_
    exact ⟨by rw [decide_eq_true e], hw⟩
end Go.Proofs.Ythkfjoilhoemmaa
