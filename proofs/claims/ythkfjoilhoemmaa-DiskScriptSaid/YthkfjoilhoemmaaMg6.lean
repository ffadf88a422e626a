/-
  DiskScript: the walk.
-/
import Derived.Test.YthkfjoilhoemmaaMg5
namespace Go.Proofs.Ythkfjoilhoemmaa
open Go.RowKit
set_option maxRecDepth 100000 in
set_option maxHeartbeats 1000000 in
theorem C_DiskScript {n0 : Int} {A1 : Option Addr} {L : List DAct} {c1 : Nat} (w : World) (hL : RDA w A1 L) (wn : (Lit.int .i64 n0).wf = true) (m1 : L.length ≤ maxLen) :
    CallsR Try.prog 7 [.int .i64 n0, .slice A1 L.length c1] w fun v w' => v = .bool true ∧ Below w.heap.size w w' := by
  have wm : (Lit.int .i64 40).wf = true := by decide
  have wm5 : (Lit.int .i64 5).wf = true := by decide
  have hpk := pick_range n0 40 (by omega)
  obtain ⟨p, hp⟩ : ∃ p, pick n0 40 = p := ⟨_, rfl⟩
  rw [hp] at hpk
  obtain ⟨m, hm⟩ : ∃ m : Nat, 1 + p = (m : Int) := ⟨(1 + p).toNat, by omega⟩
  obtain ⟨Z, hZ⟩ : ∃ Z : List Sec, List.replicate m z256 = Z := ⟨_, rfl⟩
  obtain ⟨Q, hQ⟩ : ∃ Q : List (Option Sec), List.replicate m none = Q := ⟨_, rfl⟩
  refine callsR Try.func7 rfl rfl (by kernel_rfl) rfl ?_
  have hw := Below.refl w.heap.size w
  refine rk_seq ?_
  refine rk_region ?_
  refine wl_p (fun _ => o_assign rfl) ?_
  refine wl_nil ?_
  refine rk_seq ?_
  refine rk_seq ?_
  refine rk_region ?_
  refine wl_call rfl (C_lives07 _) ?_
  rintro v14 w14 ⟨rfl, b14⟩
  have s14 := b14.size
  replace hw := hw.trans (b14.mono hw.size)
  refine wl_p (fun _ => o_not rfl) ?_
  refine wl_nil ?_
  refine rk_false rfl ?_
  refine rk_skip ?_
  refine rk_seq ?_
  refine rk_seq ?_
  refine rk_region ?_
  refine wl_p (fun _ => o_move rfl) ?_
  refine wl_call rfl (C_small _ (hL.u hw) rfl (by omega)) ?_
  rintro v17 w17 ⟨b17, ⟨rfl, ⟨i17, b17_1⟩⟩⟩
  have s17 := b17_1.size
  replace hw := hw.trans (b17_1.mono hw.size)
  refine wl_p (fun _ => o_not rfl) ?_
  refine wl_nil ?_
  cases b17 with
  | false =>
    refine rk_true rfl ?_
    refine rk_seq ?_
    refine rk_region ?_
    refine wl_p (fun _ => o_assign rfl) ?_
    refine wl_nil ?_
    refine ret1 rfl rfl ?_
    exact ⟨rfl, hw⟩
  | true =>
    have hsL : smallA L := (show true = true ↔ smallA L by assumption).1 rfl
    have hlL := hsL.1
    refine rk_false rfl ?_
    refine rk_skip ?_
    refine rk_seq ?_
    refine rk_region ?_
    refine wl_p (fun _ => o_move rfl) ?_
    refine wl_call rfl (C_PickR _ hp wn wm) ?_
    rintro v20 w20 ⟨rfl, b20⟩
    have s20 := b20.size
    replace hw := hw.trans (b20.mono hw.size)
    refine wl_p (fun _ => o_add rfl rfl (by omega) (by omega)) ?_
    refine wl_p (fun _ => o_assign rfl) ?_
    refine wl_nil ?_
    refine rk_seq ?_
    refine rk_region ?_
    refine wl_p (fun _ => o_move rfl) ?_
    refine wl_call rfl (C_dNewOk _ hm hZ hQ (by omega) (by omega)) ?_
    rintro v24 w24 ⟨g24, ⟨rfl, ⟨f24, b24⟩⟩⟩
    have s24 := b24.size
    replace hw := hw.trans (b24.mono hw.size)
    refine wl_p (fun _ => o_move rfl) ?_
    refine wl_p (fun _ => o_ext20 rfl) ?_
    refine wl_p (fun _ => o_ext21 rfl) ?_
    refine wl_p (fun _ => o_assign rfl) ?_
    refine wl_p (fun _ => o_assign rfl) ?_
    refine wl_nil ?_
    refine rk_seq ?_
    refine rk_region ?_
    refine wl_p (fun _ => o_move rfl) ?_
    refine wl_call rfl (C_rNew _ hm hZ hQ (by omega) (by omega)) ?_
    rintro v29 w29 ⟨g29, ⟨rfl, ⟨f29, b29⟩⟩⟩
    have s29 := b29.size
    replace hw := hw.trans (b29.mono hw.size)
    replace f24 := f24.u b29
    refine wl_p (fun _ => o_move rfl) ?_
    refine wl_p (fun _ => o_ext20 rfl) ?_
    refine wl_p (fun _ => o_ext21 rfl) ?_
    refine wl_p (fun _ => o_assign rfl) ?_
    refine wl_p (fun _ => o_assign rfl) ?_
    refine wl_nil ?_
    refine rk_seq ?_
    refine rk_seq ?_
    refine rk_region ?_
    refine wl_p (fun _ => o_move rfl) ?_
    refine wl_p (fun _ => o_move rfl) ?_
    refine wl_p (fun _ => o_ne rfl rfl) ?_
    refine wl_p (fun _ => o_move rfl) ?_
    refine wl_p (fun _ => o_move rfl) ?_
    refine wl_p (fun _ => o_ne rfl rfl) ?_
    refine wl_p (fun _ => o_pick_f rfl rfl) ?_
    refine wl_nil ?_
    refine rk_false rfl ?_
    refine rk_skip ?_
    refine rk_seq ?_
    refine rk_seq ?_
    refine rk_region ?_
    refine wl_p (fun _ => o_assign rfl) ?_
    refine wl_nil ?_
    refine rk_block ?_
    have hs0 : w.heap.size ≤ w20.heap.size := by omega
    have hlZ : Z.length = m := by rw [← hZ, List.length_replicate]
    refine rk_joinf (fun fb fr V => ∃ (S : List Sec) (C : List (Option Sec)), fr = [(7, .pointer (some ⟨g29, 0, none⟩))] ++ fb.drop 16 ∧ S.length = m ∧ DkAt V w20.heap.size w24.heap.size g24 S C ∧ RfAt V w24.heap.size w29.heap.size g29 S C ∧ Below w.heap.size w V) ?_ (fun ks hj => ?_)
    rotate_left
    · refine rk_loopf (fun fb k fr V => ∃ (i : Nat) (v : Int) (S : List Sec) (C : List (Option Sec)), fr = [(9, .int .i64 v), (7, .pointer (some ⟨g29, 0, none⟩))] ++ fb.drop 16 ∧ v = i ∧ i ≤ L.length ∧ k = L.length - i ∧ S.length = m ∧ DkAt V w20.heap.size w24.heap.size g24 S C ∧ RfAt V w24.heap.size w29.heap.size g29 S C ∧ Below w.heap.size w V) (n := L.length) (Fr.le_of (by kernel_rfl) (by kernel_rfl) (by repeat' constructor)) ⟨0, _, Z, Q, rfl, rfl, by omega, rfl, hlZ, f24, f29, hw⟩ ?_
      clear f24 f29 hw
      rintro k fr V ⟨i, v, S, C, rfl, rfl, hi, rfl, hlS, f24, f29, hw⟩
      have hrV := f29.hi
      have hle := f24.len
      first | refine rk_frame (by simp only [List.cons_append, List.nil_append, List.drop_succ_cons, List.drop_zero]; rfl) ?_ | refine wl_frame (by simp only [List.cons_append, List.nil_append, List.drop_succ_cons, List.drop_zero]; rfl) ?_
      refine rk_seq ?_
      refine rk_seq ?_
      refine rk_region ?_
      refine wl_p (fun _ => o_move rfl) ?_
      refine wl_p (fun _ => o_move rfl) ?_
      refine wl_p (fun _ => o_len (t := 22) Try.underlying22 rfl) ?_
      refine wl_p (fun _ => o_lt rfl rfl) ?_
      refine wl_nil ?_
      refine rk_if rfl (fun h45 => ?_) (fun h45 => ?_)
      · have hil : i < L.length := by omega
        have hkl := hsL.2 _ (List.getElem_mem hil)
        have hpk5 := pick_range L[i].1 5 (by omega)
        obtain ⟨t, ht⟩ : ∃ t, pick L[i].1 5 = t := ⟨_, rfl⟩
        rw [ht] at hpk5
        obtain ⟨I, hI⟩ : ∃ I, ixz C = I := ⟨_, rfl⟩
        have hIl : I.length ≤ 16384 := by rw [← hI, ixz_len]; have := cnt_le C; have := f29.n2; omega
        by_cases h0 : t = 0
        · obtain ⟨r, hr⟩ : ∃ r, rdD S C L[i].2.1 = r := ⟨_, rfl⟩
          refine rk_skip ?_
          refine rk_seq ?_
          refine rk_block ?_
          refine rk_seq ?_
          refine rk_region ?_
          refine wl_p (fun _ => o_move rfl) ?_
          refine wl_p (fun _ => o_move rfl) ?_
          refine wl_p (fun _ => (o_iaddrA (i) Try.underlying22 Try.sizeOf35 rfl rfl rfl (hL.some_ (by omega)) (by omega))) ?_
          refine wl_ldDAct rfl hL hw (by omega) ?_
          rintro A151 c151 f51 i51 i51_1 e51 e51_1
          refine wl_allocg [_, _, _, _, _] Try.zeroValue35 (by rfl) ?_
          rintro g10 w10 f10 b10 i10 i10_1
          have s10 := b10.size
          replace hw := hw.trans (b10.mono hw.size)
          replace f29 := f29.u b10
          replace f24 := f24.u b10
          refine wl_storega Try.sizeOf35 rfl rfl (by rfl) (oneCell_of (by rfl)) f10 (by rfl) ?_
          rintro w_1 f g e
          have s := g.size
          replace hw := hw.trans (below_of_grownBy g.g hw.size (by omega))
          replace f24 := f24.k g.g (ap_some (by omega))
          replace f29 := f29.y g (by decide)
          clear f10
          refine wl_nil ?_
          refine rk_seq ?_
          refine rk_region ?_
          refine wl_p (fun _ => o_assign rfl) ?_
          refine wl_p (fun _ => o_assign rfl) ?_
          refine wl_nil ?_
          refine rk_seq ?_
          refine rk_seq ?_
          refine rk_region ?_
          refine wl_p (fun _ => o_faddr (s := 35) (i := 0) (off := 0) Try.underlying35 rfl Try.sizeOf3 rfl rfl rfl) ?_
          refine wl_r (o_loadbg Try.isAgg3 rfl f (by rfl)) ?_
          refine wl_call rfl (C_PickR _ ht e51 wm5) ?_
          rintro v54 w54 ⟨rfl, b54⟩
          have s54 := b54.size
          replace hw := hw.trans (b54.mono hw.size)
          replace f29 := f29.u b54
          replace f24 := f24.u b54
          replace f := f.u b54
          refine wl_nil ?_
          refine rk_block ?_
          refine rk_seq ?_
          refine rk_region ?_
          refine wl_p (fun _ => o_eq rfl rfl) ?_
          refine wl_p (fun _ => o_assign rfl) ?_
          refine wl_nil ?_
          refine rk_if rfl (fun h67 => ?_) (fun h67 => h67.elim (by omega))
          refine rk_seq ?_
          refine rk_region ?_
          refine wl_p (fun _ => o_move rfl) ?_
          refine wl_p (fun _ => o_faddr (s := 35) (i := 1) (off := 1) Try.underlying35 rfl Try.sizeOf3 rfl rfl rfl) ?_
          refine wl_r (o_loadbg Try.isAgg3 rfl f (by rfl)) ?_
          refine wl_call rfl (C_dReadN _ f24 hr e51_1) ?_
          rintro v73 w73 ⟨A73, ⟨c73, ⟨rfl, ⟨f73, ⟨i73, b73⟩⟩⟩⟩⟩
          have s73 := b73.size
          replace hw := hw.trans (b73.mono hw.size)
          replace f := f.u b73
          replace f24 := f24.u b73
          replace f29 := f29.u b73
          refine wl_p (fun _ => o_move rfl) ?_
          refine wl_p (fun _ => o_ext20 rfl) ?_
          refine wl_p (fun _ => o_ext21 rfl) ?_
          refine wl_p (fun _ => o_assign rfl) ?_
          refine wl_p (fun _ => o_assign rfl) ?_
          refine wl_nil ?_
          refine rk_region ?_
          refine wl_p (fun _ => o_move rfl) ?_
          refine wl_p (fun _ => o_faddr (s := 35) (i := 1) (off := 1) Try.underlying35 rfl Try.sizeOf3 rfl rfl rfl) ?_
          refine wl_r (o_loadbg Try.isAgg3 rfl f (by rfl)) ?_
          refine wl_call rfl (C_rRead _ f29 hr e51_1) ?_
          rintro v80 w80 ⟨A80, ⟨c80, ⟨rfl, ⟨f80, ⟨i80, b80⟩⟩⟩⟩⟩
          have s80 := b80.size
          replace hw := hw.trans (b80.mono hw.size)
          replace f29 := f29.u b80
          replace f24 := f24.u b80
          replace f := f.u b80
          replace f73 := f73.u b80
          refine wl_p (fun _ => o_move rfl) ?_
          refine wl_p (fun _ => o_ext20 rfl) ?_
          refine wl_p (fun _ => o_ext21 rfl) ?_
          refine wl_p (fun _ => o_assign rfl) ?_
          refine wl_p (fun _ => o_assign rfl) ?_
          refine wl_nil ?_
          refine rk_blk ?_
          refine rk_seq ?_
          refine rk_region ?_
          refine wl_p (fun _ => o_move rfl) ?_
          refine wl_r (o_strU Try.underlying32 Try.underlying5 Try.underlying9 rfl f73.to_Rd (Below.refl _ _) rfl) ?_
          refine wl_p (fun _ => o_move rfl) ?_
          refine wl_r (o_strU Try.underlying32 Try.underlying5 Try.underlying9 rfl f80.to_Rd (Below.refl _ _) rfl) ?_
          refine wl_p (fun _ => o_sne rfl rfl) ?_
          refine wl_p (fun _ => o_move rfl) ?_
          refine wl_know 106 false rfl (by simp) ?_
          refine wl_p (fun _ => o_move rfl) ?_
          refine wl_p (fun _ => o_move rfl) ?_
          refine wl_p (fun _ => o_ne rfl rfl) ?_
          refine wl_p (fun _ => o_pick_f rfl rfl) ?_
          refine wl_p (fun _ => o_move rfl) ?_
          refine wl_know 111 false rfl (decide_eq_false (by omega)) ?_
          refine wl_p (fun _ => o_move rfl) ?_
          refine wl_call rfl (C_dCached _ f24 hI) ?_
          rintro v113 w113 ⟨A113, ⟨c113, ⟨rfl, ⟨f113, b113⟩⟩⟩⟩
          have qf113 := f113.cap
          have s113 := b113.size
          replace hw := hw.trans (b113.mono hw.size)
          replace f73 := f73.u b113
          replace f := f.u b113
          replace f24 := f24.u b113
          replace f29 := f29.u b113
          replace f80 := f80.u b113
          refine wl_p (fun _ => o_move rfl) ?_
          refine wl_call rfl (C_rCached _ f29 hI) ?_
          rintro v115 w115 ⟨A115, ⟨c115, ⟨rfl, ⟨f115, b115⟩⟩⟩⟩
          have qf115 := f115.cap
          have s115 := b115.size
          replace hw := hw.trans (b115.mono hw.size)
          replace f80 := f80.u b115
          replace f29 := f29.u b115
          replace f24 := f24.u b115
          replace f := f.u b115
          replace f73 := f73.u b115
          replace f113 := f113.u b115
          refine wl_call rfl (C_IntsZ _ f113.to_RZ f115.to_RZ rfl rfl (by omega) (by omega)) ?_
          rintro v116 w116 ⟨rfl, b116⟩
          have s116 := b116.size
          replace hw := hw.trans (b116.mono hw.size)
          replace f113 := f113.u b116
          replace f73 := f73.u b116
          replace f := f.u b116
          replace f24 := f24.u b116
          replace f29 := f29.u b116
          replace f80 := f80.u b116
          replace f115 := f115.u b116
          refine wl_p (fun _ => o_not rfl) ?_
          refine wl_p (fun _ => o_pick_f rfl rfl) ?_
          refine wl_nil ?_
          refine rk_cond rfl (fun h118 => by simp at h118) (fun h118 => ?_)
          refine rk_skip ?_
          refine rk_blk ?_
          refine rk_region ?_
          refine wl_p (fun _ => o_move rfl) ?_
          refine wl_p (fun _ => o_add rfl rfl (by omega) (by omega)) ?_
          refine wl_p (fun _ => o_assign rfl) ?_
          refine wl_nil ?_
          exact rk_againf (Fr.le_of (by kernel_rfl) (by kernel_rfl) (by repeat' constructor)) ⟨i + 1, (i : Int) + 1, S, C, rfl, by omega, by omega, rfl, hlS, f24, f29, hw⟩ (by omega)
        by_cases h3 : t = 3
        · obtain ⟨S1, hS1⟩ : ∃ S1, cur S C = S1 := ⟨_, rfl⟩
          obtain ⟨C1, hC1⟩ : ∃ C1 : List (Option Sec), List.replicate S.length none = C1 := ⟨_, rfl⟩
          have hI1 : ixz C1 = [] := by rw [← hC1, ixz, cix_none]; rfl
          have hS1l : S1.length = m := by rw [← hS1, cur_len, hlS]
          refine rk_skip ?_
          refine rk_seq ?_
          refine rk_block ?_
          refine rk_seq ?_
          refine rk_region ?_
          refine wl_p (fun _ => o_move rfl) ?_
          refine wl_p (fun _ => o_move rfl) ?_
          refine wl_p (fun _ => (o_iaddrA (i) Try.underlying22 Try.sizeOf35 rfl rfl rfl (hL.some_ (by omega)) (by omega))) ?_
          refine wl_ldDAct rfl hL hw (by omega) ?_
          rintro A151 c151 f51 i51 i51_1 e51 e51_1
          refine wl_allocg [_, _, _, _, _] Try.zeroValue35 (by rfl) ?_
          rintro g10 w10 f10 b10 i10 i10_1
          have s10 := b10.size
          replace hw := hw.trans (b10.mono hw.size)
          replace f29 := f29.u b10
          replace f24 := f24.u b10
          refine wl_storega Try.sizeOf35 rfl rfl (by rfl) (oneCell_of (by rfl)) f10 (by rfl) ?_
          rintro w_1 f g e
          have s := g.size
          replace hw := hw.trans (below_of_grownBy g.g hw.size (by omega))
          replace f24 := f24.k g.g (ap_some (by omega))
          replace f29 := f29.y g (by decide)
          clear f10
          refine wl_nil ?_
          refine rk_seq ?_
          refine rk_region ?_
          refine wl_p (fun _ => o_assign rfl) ?_
          refine wl_p (fun _ => o_assign rfl) ?_
          refine wl_nil ?_
          refine rk_seq ?_
          refine rk_seq ?_
          refine rk_region ?_
          refine wl_p (fun _ => o_faddr (s := 35) (i := 0) (off := 0) Try.underlying35 rfl Try.sizeOf3 rfl rfl rfl) ?_
          refine wl_r (o_loadbg Try.isAgg3 rfl f (by rfl)) ?_
          refine wl_call rfl (C_PickR _ ht e51 wm5) ?_
          rintro v54 w54 ⟨rfl, b54⟩
          have s54 := b54.size
          replace hw := hw.trans (b54.mono hw.size)
          replace f29 := f29.u b54
          replace f24 := f24.u b54
          replace f := f.u b54
          refine wl_nil ?_
          refine rk_block ?_
          refine rk_seq ?_
          refine rk_region ?_
          refine wl_p (fun _ => o_eq rfl rfl) ?_
          refine wl_p (fun _ => o_assign rfl) ?_
          refine wl_nil ?_
          refine rk_if rfl (fun h67 => absurd h67 (by omega)) (fun h67 => ?_)
          refine rk_seq ?_
          refine rk_region ?_
          refine wl_p (fun _ => o_eq rfl rfl) ?_
          refine wl_p (fun _ => o_assign rfl) ?_
          refine wl_nil ?_
          refine rk_if rfl (fun h83 => ?_) (fun h83 => h83.elim (by omega))
          refine rk_region ?_
          refine wl_p (fun _ => o_move rfl) ?_
          refine wl_call rfl (C_dFlush _ f24 hS1 hC1) ?_
          rintro v86 w86 ⟨rfl, ⟨f86, g86⟩⟩
          have s86 := g86.size
          replace hw := hw.trans (g86.below hw.size (by omega))
          replace f := f.c g86 (by omega)
          replace f29 := f29.c g86 (by omega)
          clear f24
          refine wl_p (fun _ => o_move rfl) ?_
          refine wl_call rfl (C_rFlush _ f29 hS1 hC1) ?_
          rintro v88 w88 ⟨rfl, ⟨f88, g88⟩⟩
          have s88 := g88.size
          replace hw := hw.trans (g88.below hw.size (by omega))
          replace f := f.c g88 (by omega)
          replace f86 := f86.c g88 (by omega)
          clear f29
          refine wl_p (fun _ => o_assign rfl) ?_
          refine wl_p (fun _ => o_assign rfl) ?_
          refine wl_nil ?_
          refine rk_blk ?_
          refine rk_seq ?_
          refine rk_region ?_
          refine wl_p (fun _ => o_move rfl) ?_
          refine wl_r (o_strU Try.underlying32 Try.underlying5 Try.underlying9 rfl (Rd.nil_) hw (by rfl)) ?_
          refine wl_p (fun _ => o_move rfl) ?_
          refine wl_r (o_strU Try.underlying32 Try.underlying5 Try.underlying9 rfl (Rd.nil_) hw (by rfl)) ?_
          refine wl_p (fun _ => o_sne rfl rfl) ?_
          refine wl_p (fun _ => o_move rfl) ?_
          refine wl_p (fun _ => o_move rfl) ?_
          refine wl_p (fun _ => o_move rfl) ?_
          refine wl_p (fun _ => o_ne rfl rfl) ?_
          refine wl_p (fun _ => o_pick_f rfl rfl) ?_
          refine wl_p (fun _ => o_move rfl) ?_
          refine wl_p (fun _ => o_move rfl) ?_
          refine wl_call rfl (C_dCached _ f86 hI1) ?_
          rintro v113 w113 ⟨A113, ⟨c113, ⟨rfl, ⟨f113, b113⟩⟩⟩⟩
          have qf113 := f113.cap
          have s113 := b113.size
          replace hw := hw.trans (b113.mono hw.size)
          replace f86 := f86.u b113
          replace f := f.u b113
          replace f88 := f88.u b113
          refine wl_p (fun _ => o_move rfl) ?_
          refine wl_call rfl (C_rCached _ f88 hI1) ?_
          rintro v115 w115 ⟨A115, ⟨c115, ⟨rfl, ⟨f115, b115⟩⟩⟩⟩
          have qf115 := f115.cap
          have s115 := b115.size
          replace hw := hw.trans (b115.mono hw.size)
          replace f88 := f88.u b115
          replace f := f.u b115
          replace f86 := f86.u b115
          replace f113 := f113.u b115
          refine wl_call rfl (C_IntsZ _ f113.to_RZ f115.to_RZ rfl rfl (by simp) (by simp)) ?_
          rintro v116 w116 ⟨rfl, b116⟩
          have s116 := b116.size
          replace hw := hw.trans (b116.mono hw.size)
          replace f113 := f113.u b116
          replace f86 := f86.u b116
          replace f := f.u b116
          replace f88 := f88.u b116
          replace f115 := f115.u b116
          refine wl_p (fun _ => o_not rfl) ?_
          refine wl_p (fun _ => o_pick_f rfl rfl) ?_
          refine wl_nil ?_
          refine rk_false rfl ?_
          refine rk_skip ?_
          refine rk_blk ?_
          refine rk_region ?_
          refine wl_p (fun _ => o_move rfl) ?_
          refine wl_p (fun _ => o_add rfl rfl (by omega) (by omega)) ?_
          refine wl_p (fun _ => o_assign rfl) ?_
          refine wl_nil ?_
          exact rk_againf (Fr.le_of (by kernel_rfl) (by kernel_rfl) (by repeat' constructor)) ⟨i + 1, (i : Int) + 1, S1, C1, rfl, by omega, by omega, rfl, hS1l, by assumption, by assumption, hw⟩ (by omega)
        by_cases h4 : t = 4
        · obtain ⟨S1, hS1⟩ : ∃ S1, crash S C L[i].2.2.2.2 = S1 := ⟨_, rfl⟩
          obtain ⟨C1, hC1⟩ : ∃ C1 : List (Option Sec), List.replicate S.length none = C1 := ⟨_, rfl⟩
          have hI1 : ixz C1 = [] := by rw [← hC1, ixz, cix_none]; rfl
          refine rk_skip ?_
          refine rk_seq ?_
          refine rk_block ?_
          refine rk_seq ?_
          refine rk_region ?_
          refine wl_p (fun _ => o_move rfl) ?_
          refine wl_p (fun _ => o_move rfl) ?_
          refine wl_p (fun _ => (o_iaddrA (i) Try.underlying22 Try.sizeOf35 rfl rfl rfl (hL.some_ (by omega)) (by omega))) ?_
          refine wl_ldDAct rfl hL hw (by omega) ?_
          rintro A151 c151 f51 i51 i51_1 e51 e51_1
          refine wl_allocg [_, _, _, _, _] Try.zeroValue35 (by rfl) ?_
          rintro g10 w10 f10 b10 i10 i10_1
          have s10 := b10.size
          replace hw := hw.trans (b10.mono hw.size)
          replace f29 := f29.u b10
          replace f24 := f24.u b10
          refine wl_storega Try.sizeOf35 rfl rfl (by rfl) (oneCell_of (by rfl)) f10 (by rfl) ?_
          rintro w_1 f g e
          have s := g.size
          replace hw := hw.trans (below_of_grownBy g.g hw.size (by omega))
          replace f24 := f24.k g.g (ap_some (by omega))
          replace f29 := f29.y g (by decide)
          clear f10
          refine wl_nil ?_
          refine rk_seq ?_
          refine rk_region ?_
          refine wl_p (fun _ => o_assign rfl) ?_
          refine wl_p (fun _ => o_assign rfl) ?_
          refine wl_nil ?_
          refine rk_seq ?_
          refine rk_seq ?_
          refine rk_region ?_
          refine wl_p (fun _ => o_faddr (s := 35) (i := 0) (off := 0) Try.underlying35 rfl Try.sizeOf3 rfl rfl rfl) ?_
          refine wl_r (o_loadbg Try.isAgg3 rfl f (by rfl)) ?_
          refine wl_call rfl (C_PickR _ ht e51 wm5) ?_
          rintro v54 w54 ⟨rfl, b54⟩
          have s54 := b54.size
          replace hw := hw.trans (b54.mono hw.size)
          replace f29 := f29.u b54
          replace f24 := f24.u b54
          replace f := f.u b54
          refine wl_nil ?_
          refine rk_block ?_
          refine rk_seq ?_
          refine rk_region ?_
          refine wl_p (fun _ => o_eq rfl rfl) ?_
          refine wl_p (fun _ => o_assign rfl) ?_
          refine wl_nil ?_
          refine rk_if rfl (fun h67 => absurd h67 (by omega)) (fun h67 => ?_)
          refine rk_seq ?_
          refine rk_region ?_
          refine wl_p (fun _ => o_eq rfl rfl) ?_
          refine wl_p (fun _ => o_assign rfl) ?_
          refine wl_nil ?_
          refine rk_if rfl (fun h83 => absurd h83 (by omega)) (fun h83 => ?_)
          refine rk_seq ?_
          refine rk_region ?_
          refine wl_p (fun _ => o_eq rfl rfl) ?_
          refine wl_p (fun _ => o_assign rfl) ?_
          refine wl_nil ?_
          refine rk_if rfl (fun h89 => ?_) (fun h89 => h89.elim (by omega))
          refine rk_drawoR (w20.heap.size) (w24.heap.size) (id := 23) (none) [0, 0, 0, 4, 10, 17, 0, 0, 128, 352, 575, 2047] [0, 0, 0, 4, 14, 31, 0, 0, 128, 511, 1023, 2047] 562 50 [0, 2, 3, 6, 7, 8, 1, 4, 5, 9, 10, 11] [(.p, 0), (.p, 2), (.s, 3), (.p, 6), (.p, 7), (.s, 8), (.c, 1), (.c, 4), (.c, 5), (.l, 9), (.p, 10), (.p, 11)] (by kernel_rfl) (by kernel_rfl) (by kernel_rfl) (by kernel_rfl) (by kernel_rfl) ?_; dsimp only [inOrder, nthOp]
          replace f := f.d
          replace f24 := f24.d
          replace f29 := f29.d
          replace hw := hw.drew
          have hS1l : S1.length = m := by rw [← hS1, crash_len, hlS]
          refine wl_p (fun _ => o_move rfl) ?_
          refine wl_p (fun _ => o_faddr (s := 35) (i := 4) (off := 4) Try.underlying35 rfl Try.sizeOf31 rfl rfl rfl) ?_
          refine wl_s (fun _ hk => (o_loadbg Try.isAgg31 rfl (f.c (chg_of_ok hk) (by omega)) (by rfl))) ?_
          refine wl_p (fun _ => o_move rfl) ?_
          refine wl_p (fun _ => o_faddr (s := 35) (i := 4) (off := 4) Try.underlying35 rfl Try.sizeOf31 rfl rfl rfl) ?_
          refine wl_s (fun _ hk => (o_loadbg Try.isAgg31 rfl (f.c (chg_of_ok hk) (by omega)) (by rfl))) ?_
          refine wl_litBo0 rfl ?_
          rintro A92 w92 f92 b92
          simp only [drew_size] at f92
          simp only [drew_size] at b92
          have qf92 := f92.cap
          have s92 := b92.size
          simp only [drew_size] at s92
          replace hw := hw.trans (b92.mono hw.size)
          replace f29 := f29.u b92
          replace f24 := f24.u b92
          replace f := f.u b92
          refine wl_appBo0 rfl f92 rfl f51 hw rfl (by omega) (by omega) ?_
          rintro A95 c95 w95 f95 b95
          have qf95 := f95.cap
          have s95 := b95.size
          replace hw := hw.trans (b95.mono hw.size)
          replace f := f.u b95
          replace f24 := f24.u b95
          replace f29 := f29.u b95
          replace f92 := f92.u b95
          refine wl_callQ rfl (C_dCrash _ f24 f95.to_RdBo hS1 hC1 (by omega) rfl (by omega)) ?_ (hq := .inr fun _ _ h => by obtain ⟨_, _, hb⟩ := h; exact ok_of_chg hb)
          rintro v96 w96 ⟨rfl, ⟨f96, g96⟩⟩
          have s96 := g96.size
          replace hw := hw.trans (g96.below hw.size (by omega))
          replace f92 := f92.c g96 (by omega)
          replace f29 := f29.c g96 (by omega)
          replace f := f.c g96 (by omega)
          replace f95 := f95.c g96 (by omega)
          clear f24
          refine wl_call rfl (C_rCrash _ f29 (f51.u hw) hS1 hC1 (by omega) rfl (by omega)) ?_
          rintro v100 w100 ⟨rfl, ⟨f100, g100⟩⟩
          have s100 := g100.size
          replace hw := hw.trans (g100.below hw.size (by omega))
          replace f95 := f95.c g100 (by omega)
          replace f := f.c g100 (by omega)
          replace f92 := f92.c g100 (by omega)
          replace f96 := f96.c g100 (by omega)
          clear f29
          refine wl_p (fun _ => o_assign rfl) ?_
          refine wl_p (fun _ => o_assign rfl) ?_
          refine wl_nild ?_
          refine rk_blk ?_
          refine rk_seq ?_
          refine rk_region ?_
          refine wl_p (fun _ => o_move rfl) ?_
          refine wl_r (o_strU Try.underlying32 Try.underlying5 Try.underlying9 rfl (Rd.nil_) hw (by rfl)) ?_
          refine wl_p (fun _ => o_move rfl) ?_
          refine wl_r (o_strU Try.underlying32 Try.underlying5 Try.underlying9 rfl (Rd.nil_) hw (by rfl)) ?_
          refine wl_p (fun _ => o_sne rfl rfl) ?_
          refine wl_p (fun _ => o_move rfl) ?_
          refine wl_p (fun _ => o_move rfl) ?_
          refine wl_p (fun _ => o_move rfl) ?_
          refine wl_p (fun _ => o_ne rfl rfl) ?_
          refine wl_p (fun _ => o_pick_f rfl rfl) ?_
          refine wl_p (fun _ => o_move rfl) ?_
          refine wl_p (fun _ => o_move rfl) ?_
          refine wl_call rfl (C_dCached _ f96 hI1) ?_
          rintro v113 w113 ⟨A113, ⟨c113, ⟨rfl, ⟨f113, b113⟩⟩⟩⟩
          have qf113 := f113.cap
          have s113 := b113.size
          replace hw := hw.trans (b113.mono hw.size)
          replace f96 := f96.u b113
          replace f92 := f92.u b113
          replace f := f.u b113
          replace f95 := f95.u b113
          replace f100 := f100.u b113
          refine wl_p (fun _ => o_move rfl) ?_
          refine wl_call rfl (C_rCached _ f100 hI1) ?_
          rintro v115 w115 ⟨A115, ⟨c115, ⟨rfl, ⟨f115, b115⟩⟩⟩⟩
          have qf115 := f115.cap
          have s115 := b115.size
          replace hw := hw.trans (b115.mono hw.size)
          replace f100 := f100.u b115
          replace f95 := f95.u b115
          replace f := f.u b115
          replace f92 := f92.u b115
          replace f96 := f96.u b115
          replace f113 := f113.u b115
          refine wl_call rfl (C_IntsZ _ f113.to_RZ f115.to_RZ rfl rfl (by omega) (by omega)) ?_
          rintro v116 w116 ⟨rfl, b116⟩
          have s116 := b116.size
          replace hw := hw.trans (b116.mono hw.size)
          replace f113 := f113.u b116
          replace f96 := f96.u b116
          replace f92 := f92.u b116
          replace f := f.u b116
          replace f95 := f95.u b116
          replace f100 := f100.u b116
          replace f115 := f115.u b116
          refine wl_p (fun _ => o_not rfl) ?_
          refine wl_p (fun _ => o_pick_f rfl rfl) ?_
          refine wl_nil ?_
          refine rk_false rfl ?_
          refine rk_skip ?_
          refine rk_blk ?_
          refine rk_region ?_
          refine wl_p (fun _ => o_move rfl) ?_
          refine wl_p (fun _ => o_add rfl rfl (by omega) (by omega)) ?_
          refine wl_p (fun _ => o_assign rfl) ?_
          refine wl_nil ?_
          exact rk_againf (Fr.le_of (by kernel_rfl) (by kernel_rfl) (by repeat' constructor)) ⟨i + 1, (i : Int) + 1, S1, C1, rfl, by omega, by omega, rfl, hS1l, by assumption, by assumption, hw⟩ (by omega)
        · refine rk_skip ?_
          refine rk_seq ?_
          refine rk_block ?_
          refine rk_seq ?_
          refine rk_region ?_
          refine wl_p (fun _ => o_move rfl) ?_
          refine wl_p (fun _ => o_move rfl) ?_
          refine wl_p (fun _ => (o_iaddrA (i) Try.underlying22 Try.sizeOf35 rfl rfl rfl (hL.some_ (by omega)) (by omega))) ?_
          refine wl_ldDAct rfl hL hw (by omega) ?_
          rintro A151 c151 f51 i51 i51_1 e51 e51_1
          refine wl_allocg [_, _, _, _, _] Try.zeroValue35 (by rfl) ?_
          rintro g10 w10 f10 b10 i10 i10_1
          have s10 := b10.size
          replace hw := hw.trans (b10.mono hw.size)
          replace f29 := f29.u b10
          replace f24 := f24.u b10
          refine wl_storega Try.sizeOf35 rfl rfl (by rfl) (oneCell_of (by rfl)) f10 (by rfl) ?_
          rintro w_1 f g e
          have s := g.size
          replace hw := hw.trans (below_of_grownBy g.g hw.size (by omega))
          replace f24 := f24.k g.g (ap_some (by omega))
          replace f29 := f29.y g (by decide)
          clear f10
          refine wl_nil ?_
          refine rk_seq ?_
          refine rk_region ?_
          refine wl_p (fun _ => o_assign rfl) ?_
          refine wl_p (fun _ => o_assign rfl) ?_
          refine wl_nil ?_
          refine rk_seq ?_
          refine rk_seq ?_
          refine rk_region ?_
          refine wl_p (fun _ => o_faddr (s := 35) (i := 0) (off := 0) Try.underlying35 rfl Try.sizeOf3 rfl rfl rfl) ?_
          refine wl_r (o_loadbg Try.isAgg3 rfl f (by rfl)) ?_
          refine wl_call rfl (C_PickR _ ht e51 wm5) ?_
          rintro v54 w54 ⟨rfl, b54⟩
          have s54 := b54.size
          replace hw := hw.trans (b54.mono hw.size)
          replace f29 := f29.u b54
          replace f24 := f24.u b54
          replace f := f.u b54
          refine wl_nil ?_
          refine rk_block ?_
          refine rk_seq ?_
          refine rk_region ?_
          refine wl_p (fun _ => o_eq rfl rfl) ?_
          refine wl_p (fun _ => o_assign rfl) ?_
          refine wl_nil ?_
          refine rk_if rfl (fun h67 => absurd h67 (by omega)) (fun h67 => ?_)
          refine rk_seq ?_
          refine rk_region ?_
          refine wl_p (fun _ => o_eq rfl rfl) ?_
          refine wl_p (fun _ => o_assign rfl) ?_
          refine wl_nil ?_
          refine rk_if rfl (fun h83 => absurd h83 (by omega)) (fun h83 => ?_)
          refine rk_seq ?_
          refine rk_region ?_
          refine wl_p (fun _ => o_eq rfl rfl) ?_
          refine wl_p (fun _ => o_assign rfl) ?_
          refine wl_nil ?_
          refine rk_if rfl (fun h89 => absurd h89 (by omega)) (fun h89 => ?_)
          refine rk_drawoR (w20.heap.size) (w24.heap.size) (id := 16) (none) [0, 0, 2, 0, 8, 21, 0, 0, 128, 0, 544, 1344, 2111, 8191] [0, 0, 2, 0, 8, 31, 0, 0, 128, 0, 575, 2047, 4095, 8191] 3120 1072 [0, 1, 2, 3, 6, 7, 8, 9, 4, 5, 10, 11, 12, 13] [(.p, 0), (.p, 1), (.s, 2), (.r, 3), (.p, 6), (.p, 7), (.s, 8), (.s, 9), (.c, 4), (.c, 5), (.c, 10), (.l, 11), (.p, 12), (.p, 13)] (by kernel_rfl) (by kernel_rfl) (by kernel_rfl) (by kernel_rfl) (by kernel_rfl) ?_; dsimp only [inOrder, nthOp]
          replace f := f.d
          replace f24 := f24.d
          replace f29 := f29.d
          replace hw := hw.drew
          obtain ⟨q, hq⟩ : ∃ q, actB L[i].2.2.1 L[i].2.2.2.1 = q := ⟨_, rfl⟩
          obtain ⟨z, hz⟩ : ∃ z, wrC S C L[i].2.1 q = z := ⟨_, rfl⟩
          obtain ⟨I2, hI2⟩ : ∃ I, ixz z.1 = I := ⟨_, rfl⟩
          have hI2l : I2.length ≤ 16384 := by rw [← hI2, ixz_len]; have := cnt_le z.1; have e := wrC_len S C L[i].2.1 q; rw [hz] at e; have := f29.n2; omega
          refine wl_p (fun _ => o_move rfl) ?_
          refine wl_p (fun _ => o_faddr (s := 35) (i := 1) (off := 1) Try.underlying35 rfl Try.sizeOf3 rfl rfl rfl) ?_
          refine wl_s (fun _ hk => (o_loadbg Try.isAgg3 rfl (f.c (chg_of_ok hk) (by omega)) (by rfl))) ?_
          refine wl_r (o_loadag Try.isAgg35 Try.sizeOf35 rfl f (by rfl)) ?_
          refine wl_p (fun _ => o_move rfl) ?_
          refine wl_p (fun _ => o_faddr (s := 35) (i := 1) (off := 1) Try.underlying35 rfl Try.sizeOf3 rfl rfl rfl) ?_
          refine wl_s (fun _ hk => (o_loadbg Try.isAgg3 rfl (f.c (chg_of_ok hk) (by omega)) (by rfl))) ?_
          refine wl_s (fun _ hk => (o_loadag Try.isAgg35 Try.sizeOf35 rfl (f.c (chg_of_ok hk) (by omega)) (by rfl))) ?_
          refine wl_call rfl (C_actBytes _ (by rfl) hq) ?_ (hq := .inr fun _ _ h => grown_of_below h.choose_spec.choose_spec.2.2.2 _)
          rintro v59 w59 ⟨A59, ⟨c59, ⟨rfl, ⟨f59, ⟨i59, b59⟩⟩⟩⟩⟩
          simp only [drew_size] at f59
          simp only [drew_size] at b59
          have qf59 := f59.cap
          have s59 := b59.size
          simp only [drew_size] at s59
          replace hw := hw.trans (b59.mono hw.size)
          replace f29 := f29.u b59
          replace f24 := f24.u b59
          replace f := f.u b59
          refine wl_callQ rfl (C_dWriteN _ f24 f59.to_Rd hz e51_1 rfl (by omega)) ?_ (hq := .inr fun _ _ h => by obtain ⟨_, _, hb⟩ := h; exact ok_of_chg hb)
          rintro v60 w60 ⟨rfl, ⟨f60, g60⟩⟩
          have s60 := g60.size
          replace hw := hw.trans (g60.below hw.size (by omega))
          replace f := f.c g60 (by omega)
          replace f29 := f29.c g60 (by omega)
          replace f59 := f59.c g60 (by omega)
          clear f24
          refine wl_call rfl (C_actBytes _ (by rfl) hq) ?_ (hq := .inr fun _ _ h => grown_of_below h.choose_spec.choose_spec.2.2.2 _)
          rintro v65 w65 ⟨A65, ⟨c65, ⟨rfl, ⟨f65, ⟨i65, b65⟩⟩⟩⟩⟩
          have qf65 := f65.cap
          have s65 := b65.size
          replace hw := hw.trans (b65.mono hw.size)
          replace f59 := f59.u b65
          replace f29 := f29.u b65
          replace f := f.u b65
          replace f60 := f60.u b65
          refine wl_call rfl (C_rWrite _ f29 f65.to_Rd hz e51_1 rfl (by omega) (by omega)) ?_
          rintro v66 w66 ⟨rfl, ⟨f66, g66⟩⟩
          have s66 := g66.size
          replace hw := hw.trans (g66.below hw.size (by omega))
          replace f60 := f60.c g66 (by omega)
          replace f := f.c g66 (by omega)
          replace f59 := f59.c g66 (by omega)
          replace f65 := f65.c g66 (by omega)
          clear f29
          refine wl_p (fun _ => o_assign rfl) ?_
          refine wl_p (fun _ => o_assign rfl) ?_
          refine wl_nild ?_
          refine rk_blk ?_
          refine rk_seq ?_
          refine rk_region ?_
          refine wl_p (fun _ => o_move rfl) ?_
          refine wl_r (o_strU Try.underlying32 Try.underlying5 Try.underlying9 rfl (Rd.nil_) hw (by rfl)) ?_
          refine wl_p (fun _ => o_move rfl) ?_
          refine wl_r (o_strU Try.underlying32 Try.underlying5 Try.underlying9 rfl (Rd.nil_) hw (by rfl)) ?_
          refine wl_p (fun _ => o_sne rfl rfl) ?_
          refine wl_p (fun _ => o_move rfl) ?_
          refine wl_p (fun _ => o_move rfl) ?_
          refine wl_p (fun _ => o_move rfl) ?_
          refine wl_p (fun _ => o_ne rfl rfl) ?_
          refine wl_p (fun _ => o_pick_f rfl rfl) ?_
          refine wl_p (fun _ => o_move rfl) ?_
          refine wl_know 111 false rfl (decide_eq_false (by omega)) ?_
          refine wl_p (fun _ => o_move rfl) ?_
          refine wl_call rfl (C_dCached _ f60 hI2) ?_
          rintro v113 w113 ⟨A113, ⟨c113, ⟨rfl, ⟨f113, b113⟩⟩⟩⟩
          have qf113 := f113.cap
          have s113 := b113.size
          replace hw := hw.trans (b113.mono hw.size)
          replace f65 := f65.u b113
          replace f59 := f59.u b113
          replace f := f.u b113
          replace f60 := f60.u b113
          replace f66 := f66.u b113
          refine wl_p (fun _ => o_move rfl) ?_
          refine wl_call rfl (C_rCached _ f66 hI2) ?_
          rintro v115 w115 ⟨A115, ⟨c115, ⟨rfl, ⟨f115, b115⟩⟩⟩⟩
          have qf115 := f115.cap
          have s115 := b115.size
          replace hw := hw.trans (b115.mono hw.size)
          replace f66 := f66.u b115
          replace f60 := f60.u b115
          replace f := f.u b115
          replace f59 := f59.u b115
          replace f65 := f65.u b115
          replace f113 := f113.u b115
          refine wl_call rfl (C_IntsZ _ f113.to_RZ f115.to_RZ rfl rfl (by omega) (by omega)) ?_
          rintro v116 w116 ⟨rfl, b116⟩
          have s116 := b116.size
          replace hw := hw.trans (b116.mono hw.size)
          replace f113 := f113.u b116
          replace f65 := f65.u b116
          replace f59 := f59.u b116
          replace f := f.u b116
          replace f60 := f60.u b116
          replace f66 := f66.u b116
          replace f115 := f115.u b116
          refine wl_p (fun _ => o_not rfl) ?_
          refine wl_p (fun _ => o_pick_f rfl rfl) ?_
          refine wl_nil ?_
          refine rk_cond rfl (fun h118 => by simp at h118) (fun h118 => ?_)
          refine rk_skip ?_
          refine rk_blk ?_
          refine rk_region ?_
          refine wl_p (fun _ => o_move rfl) ?_
          refine wl_p (fun _ => o_add rfl rfl (by omega) (by omega)) ?_
          refine wl_p (fun _ => o_assign rfl) ?_
          refine wl_nil ?_
          exact rk_againf (Fr.le_of (by kernel_rfl) (by kernel_rfl) (by repeat' constructor)) ⟨i + 1, (i : Int) + 1, S, z.1, rfl, by omega, by omega, rfl, hlS, by assumption, by assumption, hw⟩ (by omega)
      · refine rk_exit rfl ?_
        obtain rfl : i = L.length := by omega
        exact rk_tof hj (Fr.le_of (by kernel_rfl) (by kernel_rfl) (by repeat' constructor)) ⟨S, C, rfl, hlS, f24, f29, hw⟩
    clear f24 f29 hw
    rintro fr V ⟨S, C, rfl, hlS, f24, f29, hw⟩
    have himl := img_len S
    rw [hlS] at himl
    obtain ⟨B, c, D, q, H, fg, fa, fh, fc⟩ := f29.ex
    obtain ⟨im, him⟩ : ∃ im, img S = im := ⟨_, rfl⟩
    rw [him] at himl fa fg
    obtain ⟨Q1, hQ1⟩ : ∃ Q : List (Option Sec), List.replicate m none = Q := ⟨_, rfl⟩
    have hIQ : ixz (List.replicate m none) = [] := by rw [ixz, cix_none]; rfl
    clear f29
    first | refine rk_frame (by simp only [List.cons_append, List.nil_append, List.drop_succ_cons, List.drop_zero]; rfl) ?_ | refine wl_frame (by simp only [List.cons_append, List.nil_append, List.drop_succ_cons, List.drop_zero]; rfl) ?_
    refine rk_seq ?_
    refine rk_region ?_
    refine wl_p (fun _ => o_move rfl) ?_
    refine wl_call rfl (C_dImage _ f24 him) ?_
    rintro v121 w121 ⟨A121, ⟨c121, ⟨rfl, ⟨f121, b121⟩⟩⟩⟩
    have qf121 := f121.cap
    have s121 := b121.size
    replace hw := hw.trans (b121.mono hw.size)
    replace fa := fa.u b121
    replace fg := fg.u b121
    replace fc := fc.u b121
    replace fh := fh.u b121
    replace f24 := f24.u b121
    refine wl_call rfl (C_dOfOk _ f121.to_Rd himl rfl (by omega) (by omega) (by omega)) ?_
    rintro v122 w122 ⟨g122, ⟨S122, ⟨rfl, ⟨e122, ⟨e122_1, ⟨f122, b122⟩⟩⟩⟩⟩⟩
    have s122 := b122.size
    replace hw := hw.trans (b122.mono hw.size)
    replace f24 := f24.u b122
    replace fh := fh.u b122
    replace fc := fc.u b122
    replace fg := fg.u b122
    replace fa := fa.u b122
    replace f121 := f121.u b122
    refine wl_p (fun _ => o_move rfl) ?_
    refine wl_p (fun _ => o_ext20 rfl) ?_
    refine wl_p (fun _ => o_ext21 rfl) ?_
    refine wl_p (fun _ => o_assign rfl) ?_
    refine wl_p (fun _ => o_assign rfl) ?_
    refine wl_nil ?_
    refine rk_seq ?_
    refine rk_drawo (id := 27) (none) [0, 1, 2, 4, 12, 20, 4, 68, 132, 260, 516, 1060, 2052, 4112, 8192, 24576, 8192, 106496, 139264, 294912, 524288, 1572864, 2621440, 524288, 8912896, 17301504, 34078720, 67633152, 138936320, 268959744, 538968064, 1073741824, 3221225472, 5368709120, 9663676416, 18253611008, 68719476735] [0, 1, 3, 7, 15, 31, 7, 71, 199, 455, 967, 2047, 4095, 8191, 16383, 32767, 16383, 131071, 262143, 524287, 1048575, 2097151, 4194303, 1048575, 9437183, 26214399, 59768831, 126877695, 268435455, 536870911, 1073741823, 2147483647, 4294967295, 8589934591, 17179869183, 34359738367, 68719476735] 4297097232 2097168 [0, 1, 2, 3, 6, 7, 8, 9, 10, 4, 5, 11, 12, 13, 14, 16, 15, 17, 18, 19, 20, 23, 24, 25, 26, 27, 21, 22, 28, 29, 30, 31, 32, 33, 34, 35, 36] [(.p, 0), (.p, 1), (.p, 2), (.p, 3), (.p, 6), (.p, 7), (.p, 8), (.s, 9), (.s, 10), (.c, 4), (.r, 5), (.p, 11), (.p, 12), (.p, 13), (.p, 14), (.p, 16), (.l, 15), (.p, 17), (.p, 18), (.p, 19), (.p, 20), (.p, 23), (.p, 24), (.p, 25), (.s, 26), (.s, 27), (.c, 21), (.r, 22), (.p, 28), (.p, 29), (.p, 30), (.p, 31), (.l, 32), (.p, 33), (.p, 34), (.p, 35), (.p, 36)] (by kernel_rfl) (by kernel_rfl) (by kernel_rfl) (by kernel_rfl) (by kernel_rfl) ?_
    dsimp only [inOrder, nthOp]
    replace hw := hw.drew
    replace f121 := f121.d
    replace fa := fa.d
    replace fg := fg.d
    replace fc := fc.d
    replace fh := fh.d
    replace f24 := f24.d
    replace f122 := f122.d
    refine wl_p (fun _ => o_move rfl) ?_
    refine wl_p (fun _ => o_eq rfl rfl) ?_
    refine wl_p (fun _ => o_move rfl) ?_
    refine wl_p (fun _ => o_move rfl) ?_
    refine wl_p (fun _ => o_move rfl) ?_
    refine wl_p (fun _ => o_nil rfl) ?_
    refine wl_p (fun _ => o_faddr (s := 57) (i := 0) (off := 0) Try.underlying57 rfl Try.sizeOf32 rfl rfl rfl) ?_
    refine wl_s (fun _ hk => (o_loadbg Try.isAgg32 rfl (fg.u (below_of_grown_none hk)) (by rfl))) ?_
    refine wl_s (fun _ hk => (o_strU Try.underlying32 Try.underlying5 Try.underlying9 rfl fa.to_Rd (below_of_grown_none hk) rfl)) ?_
    refine wl_call rfl (C_dImage _ f24 him) ?_ (hq := .inr fun _ _ h => by obtain ⟨_, _, _, _, hb⟩ := h; exact grown_of_below hb _)
    rintro v129 w129 ⟨A129, ⟨c129, ⟨rfl, ⟨f129, b129⟩⟩⟩⟩
    simp only [drew_size] at f129
    simp only [drew_size] at b129
    have qf129 := f129.cap
    have s129 := b129.size
    simp only [drew_size] at s129
    replace hw := hw.trans (b129.mono hw.size)
    replace f122 := f122.u b129
    replace f24 := f24.u b129
    replace fh := fh.u b129
    replace fc := fc.u b129
    replace fg := fg.u b129
    replace fa := fa.u b129
    replace f121 := f121.u b129
    refine wl_r (o_strU Try.underlying32 Try.underlying5 Try.underlying9 rfl f129.to_Rd (Below.refl _ _) rfl) ?_
    refine wl_p (fun _ => o_seq rfl rfl) ?_
    refine wl_p (fun _ => o_pick_t rfl rfl) ?_
    refine wl_p (fun _ => o_move rfl) ?_
    refine wl_know 138 true rfl (by simp) ?_
    refine wl_p (fun _ => o_move rfl) ?_
    refine wl_p (fun _ => o_move rfl) ?_
    refine wl_call rfl (C_dSize _ f24) ?_
    rintro v140 w140 ⟨rfl, rfl⟩
    refine wl_p (fun _ => o_eq rfl rfl) ?_
    refine wl_p (fun _ => o_pick_t rfl rfl) ?_
    refine wl_p (fun _ => o_move rfl) ?_
    refine wl_know 144 true rfl (decide_eq_true (by omega)) ?_
    refine wl_p (fun _ => o_move rfl) ?_
    refine wl_p (fun _ => o_move rfl) ?_
    refine wl_p (fun _ => o_nil rfl) ?_
    refine wl_p (fun _ => o_faddr (s := 57) (i := 0) (off := 0) Try.underlying57 rfl Try.sizeOf32 rfl rfl rfl) ?_
    refine wl_s (fun _ hk => (o_loadbg Try.isAgg32 rfl (fg.u (below_of_grown_none hk)) (by rfl))) ?_
    refine wl_s (fun _ hk => (o_strU Try.underlying32 Try.underlying5 Try.underlying9 rfl fa.to_Rd (below_of_grown_none hk) rfl)) ?_
    refine wl_call rfl (C_dImage _ f122 e122) ?_ (hq := .inr fun _ _ h => by obtain ⟨_, _, _, _, hb⟩ := h; exact grown_of_below hb _)
    rintro v146 w146 ⟨A146, ⟨c146, ⟨rfl, ⟨f146, b146⟩⟩⟩⟩
    have qf146 := f146.cap
    have s146 := b146.size
    replace hw := hw.trans (b146.mono hw.size)
    replace f121 := f121.u b146
    replace fa := fa.u b146
    replace fg := fg.u b146
    replace fc := fc.u b146
    replace fh := fh.u b146
    replace f24 := f24.u b146
    replace f122 := f122.u b146
    replace f129 := f129.u b146
    refine wl_r (o_strU Try.underlying32 Try.underlying5 Try.underlying9 rfl f146.to_Rd (Below.refl _ _) rfl) ?_
    refine wl_p (fun _ => o_seq rfl rfl) ?_
    refine wl_p (fun _ => o_pick_t rfl rfl) ?_
    refine wl_p (fun _ => o_move rfl) ?_
    refine wl_know 155 true rfl (by simp) ?_
    refine wl_p (fun _ => o_move rfl) ?_
    refine wl_call rfl (C_dCached _ f122 hIQ) ?_
    rintro v157 w157 ⟨A157, ⟨c157, ⟨rfl, ⟨f157, b157⟩⟩⟩⟩
    have qf157 := f157.cap
    have s157 := b157.size
    replace hw := hw.trans (b157.mono hw.size)
    replace f129 := f129.u b157
    replace f122 := f122.u b157
    replace f24 := f24.u b157
    replace fh := fh.u b157
    replace fc := fc.u b157
    replace fg := fg.u b157
    replace fa := fa.u b157
    replace f121 := f121.u b157
    replace f146 := f146.u b157
    refine wl_p (fun _ => o_len (t := 41) Try.underlying41 rfl) ?_
    refine wl_p (fun _ => o_eq rfl rfl) ?_
    refine wl_p (fun _ => o_pick_t rfl rfl) ?_
    refine wl_p (fun _ => o_assign rfl) ?_
    refine wl_nild ?_
    refine ret1 rfl rfl ?_
    exact ⟨congrArg Value.bool (decide_eq_true rfl), hw⟩
end Go.Proofs.Ythkfjoilhoemmaa
