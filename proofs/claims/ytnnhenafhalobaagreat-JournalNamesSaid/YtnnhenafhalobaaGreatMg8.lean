/-
  Walks: JournalNames.
-/
import Derived.Test.YtnnhenafhalobaaGreatMg7
namespace Go.Proofs.YtnnhenafhalobaaGreat
set_option maxRecDepth 100000
open Go.RowKit
--@ hide C_jOpenOk
--@ hide C_jOpenBad
--@ hide C_jsOpen
theorem C_jFormatArg {dl dh gd : Nat} {S : List Sec} {C : List (Option Sec)} {z : Int} (w : World) (hd : DkAt w dl dh gd S C) (hz : 1 ≤ z ∧ z ≤ 256) (hn : (S.length : Int) < 2 + 2 * z) :
    CallsR Tryz.prog 12 [.pointer (some ⟨gd, 0, none⟩), .int .i64 z] w fun v w' => v = .tuple #[.pointer none, .int .i64 2] ∧ Below w.heap.size w w' := by
  have hS := hd.n1
  refine callsR Tryz.func12 rfl rfl (by kernel_rfl) rfl ?_
  have hw := Below.refl w.heap.size w
  refine rk_seq ?_
  refine rk_region ?_
  refine wl_p (fun _ => o_assign rfl) ?_
  refine wl_p (fun _ => o_assign rfl) ?_
  refine wl_nil ?_
  refine rk_seq ?_
  refine rk_seq ?_
  refine rk_region ?_
  refine wl_p (fun _ => o_move rfl) ?_
  refine wl_call rfl (C_dSize _ hd) ?_
  rintro v7 w7 ⟨rfl, rfl⟩
  refine wl_p (fun _ => o_eq rfl rfl) ?_
  refine wl_nil ?_
  refine rk_if rfl (fun h8 => absurd h8 (by omega)) (fun h8 => ?_)
  refine rk_skip ?_
  refine rk_seq ?_
  refine rk_seq ?_
  refine rk_region ?_
  refine wl_p (fun _ => o_move rfl) ?_
  refine wl_call rfl (C_jSectorsY _ (by omega)) ?_
  rintro v10 w10 ⟨rfl, rfl⟩
  refine wl_p (fun _ => o_eq rfl rfl) ?_
  refine wl_p (fun _ => o_move rfl) ?_
  refine wl_know 12 false rfl (decide_eq_false (by omega)) ?_
  refine wl_p (fun _ => o_move rfl) ?_
  refine wl_call rfl (C_dSize _ hd) ?_
  rintro v14 w14 ⟨rfl, rfl⟩
  refine wl_p (fun _ => o_move rfl) ?_
  refine wl_call rfl (C_jSectorsY _ (by omega)) ?_
  rintro v16 w16 ⟨rfl, rfl⟩
  refine wl_p (fun _ => o_lt rfl rfl) ?_
  refine wl_p (fun _ => o_pick_f rfl rfl) ?_
  refine wl_nil ?_
  refine rk_if rfl (fun h18 => ?_) (fun h18 => h18.elim (by omega))
  refine rk_seq ?_
  refine rk_region ?_
  refine wl_p (fun _ => o_assign rfl) ?_
  refine wl_p (fun _ => o_assign rfl) ?_
  refine wl_nil ?_
  refine ret2 rfl rfl rfl ?_
  exact ⟨rfl, hw⟩
set_option maxRecDepth 100000 in
theorem C_JournalNames (w : World) : CallsR Tryz.prog 4 [] w fun v w' => v = .bool true ∧ Below w.heap.size w w' := by
  obtain ⟨Z, hZ⟩ : ∃ Z : List Sec, List.replicate 6 z256 = Z := ⟨_, rfl⟩
  obtain ⟨Q, hQ⟩ : ∃ Q : List (Option Sec), List.replicate 6 none = Q := ⟨_, rfl⟩
  have hZl : Z.length = 6 := by rw [← hZ, List.length_replicate]
  have hQl : Q.length = 6 := by rw [← hQ, List.length_replicate]
  obtain ⟨S1, hS1⟩ : ∃ S1, fmS Z Q 2 = S1 := ⟨_, rfl⟩
  have hS1l : S1.length = 6 := by rw [← hS1, fmS_len, hZl]
  have hQ1 : List.replicate Z.length none = Q := by rw [hZl, hQ]
  have hrz : ∀ i, i < 6 → rdD Z Q ((i : Nat) : Int) = (List.replicate 256 0, 0) := fun i hi => by
    have : (cur Z Q)[i]? = some z256 := by rw [← hZ, ← hQ, cur_none, List.getElem?_replicate, if_pos hi]
    exact rdD_of this (by omega)
  obtain ⟨q, hq⟩ : ∃ q : By, List.replicate 600 0 = q := ⟨_, rfl⟩
  have hql : q.length = 600 := by rw [← hq, List.length_replicate]
  have hO1 : OkR (1, q) := ⟨by show (1 : UInt8) ≠ 0; decide, by show q.length ≤ 8192; omega⟩
  have hO0 : ¬OkR (0, []) := fun h => h.1 rfl
  have hO7 : OkR (7, [113]) := by decide
  have hO8 : OkR (8, []) := by decide
  have hz1 : 2 * 256 < szR [] + ((bodyB (1, q)).length + 8) := by
    have : q.length ≤ (bodyB (1, q)).length := by unfold bodyB blkB; simp only [List.length_append]; omega
    omega
  obtain ⟨bs, hbs⟩ : ∃ bs, bytesR (chainAll (fstB 0) []) (7, [113]) = bs := ⟨_, rfl⟩
  have hbl : bs.length = 11 := by rw [← hbs, bytesR_len]; rfl
  obtain ⟨C2, hC2⟩ : ∃ C2, appC S1 Q 2 0 (szR []) bs = C2 := ⟨_, rfl⟩
  have hC2l : C2.length = 6 := by rw [← hC2, appC_len (by omega), hS1l]
  obtain ⟨S2, hS2⟩ : ∃ S2, cur S1 C2 = S2 := ⟨_, rfl⟩
  have hS2l : S2.length = 6 := by rw [← hS2, cur_len, hS1l]
  have hQ2 : List.replicate S1.length none = Q := by rw [hS1l, hQ]
  have hQ3 : List.replicate S2.length none = Q := by rw [hS2l, hQ]
  obtain ⟨S3, hS3⟩ : ∃ S3, swS S2 Q 2 1 (bytesAll (fstB 1) [(8, [])]) = S3 := ⟨_, rfl⟩
  refine callsR Tryz.func4 rfl rfl (by kernel_rfl) rfl ?_
  have hw := Below.refl w.heap.size w
  refine rk_seq ?_
  refine rk_region ?_
  refine wl_p (fun _ => o_assign rfl) ?_
  refine wl_nil ?_
  refine rk_seq ?_
  refine rk_region ?_
  refine wl_call rfl (C_dNewOk _ (by omega) hZ hQ (by omega) (by omega)) ?_
  rintro v22 w22 ⟨g22, ⟨rfl, ⟨f22, b22⟩⟩⟩
  have s22 := b22.size
  replace hw := hw.trans (b22.mono hw.size)
  refine wl_p (fun _ => o_move rfl) ?_
  refine wl_p (fun _ => o_ext20 rfl) ?_
  refine wl_p (fun _ => o_ext21 rfl) ?_
  refine wl_p (fun _ => o_assign rfl) ?_
  refine wl_p (fun _ => o_assign rfl) ?_
  refine wl_nil ?_
  refine rk_seq ?_
  refine rk_region ?_
  refine wl_call rfl (C_jFormatNil _) ?_
  rintro v26 w26 ⟨rfl, b26⟩
  have s26 := b26.size
  replace hw := hw.trans (b26.mono hw.size)
  replace f22 := f22.u b26
  refine wl_p (fun _ => o_move rfl) ?_
  refine wl_p (fun _ => o_ext20 rfl) ?_
  refine wl_p (fun _ => o_ext21 rfl) ?_
  refine wl_p (fun _ => o_assign rfl) ?_
  refine wl_p (fun _ => o_assign rfl) ?_
  refine wl_nil ?_
  refine rk_seq ?_
  refine rk_region ?_
  refine wl_p (fun _ => o_move rfl) ?_
  refine wl_call rfl (C_jFormatArg _ f22 (by omega) (by omega)) ?_
  rintro v31 w31 ⟨rfl, b31⟩
  have s31 := b31.size
  replace hw := hw.trans (b31.mono hw.size)
  replace f22 := f22.u b31
  refine wl_p (fun _ => o_move rfl) ?_
  refine wl_p (fun _ => o_ext20 rfl) ?_
  refine wl_p (fun _ => o_ext21 rfl) ?_
  refine wl_p (fun _ => o_assign rfl) ?_
  refine wl_p (fun _ => o_assign rfl) ?_
  refine wl_nil ?_
  refine rk_seq ?_
  refine rk_region ?_
  refine wl_call rfl (C_jOpenNil _) ?_
  rintro v35 w35 ⟨rfl, b35⟩
  have s35 := b35.size
  replace hw := hw.trans (b35.mono hw.size)
  replace f22 := f22.u b35
  refine wl_p (fun _ => o_move rfl) ?_
  refine wl_p (fun _ => o_ext20 rfl) ?_
  refine wl_p (fun _ => o_ext21 rfl) ?_
  refine wl_p (fun _ => o_assign rfl) ?_
  refine wl_p (fun _ => o_assign rfl) ?_
  refine wl_nil ?_
  refine rk_seq ?_
  refine rk_region ?_
  refine wl_p (fun _ => o_move rfl) ?_
  refine wl_call rfl (C_jOpenBad _ f22 (hrz 0 (by decide)) (hrz 1 (by decide)) (fun e a h => by rw [headOf_zero] at h; cases h) List.length_replicate List.length_replicate (by omega)) ?_
  rintro _ w40 ⟨rfl, b40⟩
  have sb40 := b40.size
  replace hw := hw.trans (b40.mono hw.size)
  replace f22 := f22.u b40
  refine wl_p (fun _ => o_move rfl) ?_
  refine wl_p (fun _ => o_ext20 rfl) ?_
  refine wl_p (fun _ => o_ext21 rfl) ?_
  refine wl_p (fun _ => o_assign rfl) ?_
  refine wl_p (fun _ => o_assign rfl) ?_
  refine wl_nil ?_
  refine rk_seq ?_
  refine rk_region ?_
  refine wl_p (fun _ => o_move rfl) ?_
  refine wl_call rfl (C_jsFormat _ f22 (by omega) hS1 hQ1 (by omega) (by omega)) ?_
  rintro v45 w45 ⟨g45, ⟨rfl, ⟨f45, ⟨i45, g45_1⟩⟩⟩⟩
  have s45 := g45_1.size
  replace hw := hw.trans (g45_1.below hw.size (by omega))
  clear f22
  refine wl_p (fun _ => o_move rfl) ?_
  refine wl_p (fun _ => o_ext20 rfl) ?_
  refine wl_p (fun _ => o_ext21 rfl) ?_
  refine wl_p (fun _ => o_assign rfl) ?_
  refine wl_p (fun _ => o_assign rfl) ?_
  refine wl_nil ?_
  refine rk_seq ?_
  refine rk_seq ?_
  refine rk_region ?_
  refine wl_p (fun _ => o_move rfl) ?_
  refine wl_p (fun _ => o_ne rfl rfl) ?_
  refine wl_nil ?_
  refine rk_false rfl ?_
  refine rk_skip ?_
  refine rk_seq ?_
  refine rk_region ?_
  refine wl_p (fun _ => o_move rfl) ?_
  refine wl_mkBz (600) rfl rfl (by omega) (by rfl) (by omega) hq ?_
  rintro A51 w51 f51 b51
  have qf51 := f51.cap
  have s51 := b51.size
  replace hw := hw.trans (b51.mono hw.size)
  replace f45 := f45.u b51
  refine wl_p (fun _ => (o_buildg [_, _] Tryz.underlying37 Tryz.zeroValue37 (by rfl) (by rfl) rfl (by rfl) (by rfl) (fun _ => by kernel_rfl))) ?_
  refine wl_call rfl (C_jsAppendFull _ f45 f51.to_Rd (by rfl) (by omega) hO1 (by omega) (by omega)) ?_
  rintro v53 w53 ⟨rfl, b53⟩
  have s53 := b53.size
  replace hw := hw.trans (b53.mono hw.size)
  replace f45 := f45.u b53
  replace f51 := f51.u b53
  refine wl_p (fun _ => o_assign rfl) ?_
  refine wl_nil ?_
  refine rk_seq ?_
  refine rk_region ?_
  refine wl_p (fun _ => o_move rfl) ?_
  refine wl_p (fun _ => (o_buildg [_, _] Tryz.underlying37 Tryz.zeroValue37 (by rfl) (by rfl) rfl (by rfl) (by rfl) (fun _ => by kernel_rfl))) ?_
  refine wl_call rfl (C_jsAppendBad _ f45 (Rd.nil_) (by rfl) (by rfl) hO0 (by simp)) ?_
  rintro v56 w56 ⟨rfl, b56⟩
  have s56 := b56.size
  replace hw := hw.trans (b56.mono hw.size)
  replace f51 := f51.u b56
  replace f45 := f45.u b56
  refine wl_p (fun _ => o_assign rfl) ?_
  refine wl_nil ?_
  refine rk_seq ?_
  refine rk_region ?_
  refine wl_p (fun _ => o_move rfl) ?_
  refine wl_litC [113] Tryz.u8 Tryz.sizeOf5 Tryz.zeroValue5 (by rfl) rfl rfl (by rfl) (by rfl) (by rfl) ?_
  rintro A58 w58 f58 b58
  have s58 := b58.size
  replace hw := hw.trans (b58.mono hw.size)
  replace f45 := f45.u b58
  replace f51 := f51.u b58
  refine wl_p (fun _ => (o_buildg [_, _] Tryz.underlying37 Tryz.zeroValue37 (by rfl) (by rfl) rfl (by rfl) (by rfl) (fun _ => by kernel_rfl))) ?_
  refine wl_call rfl (K_jsAppend (kd := 7) (p := [113]) _ f45 f58.to_Rd rfl rfl hO7 (by decide) hbs hC2 (by rw [hbl]; decide)) ?_
  rintro _ w61 ⟨rfl, L', fJ, hJ, hL⟩
  have hw2 := hw.trans (hJ.own f45 (Nat.le_refl _))
  clear hw f45 f58
  have hw := hw2
  clear hw2 hJ
  refine wl_p (fun _ => o_assign rfl) ?_
  refine wl_nil ?_
  refine rk_seq ?_
  refine rk_region ?_
  refine wl_p (fun _ => o_move rfl) ?_
  refine wl_call rfl (C_jsSynced _ fJ) ?_
  rintro v63 w63 ⟨rfl, b63⟩
  have s63 := b63.size
  replace hw := hw.trans (b63.mono hw.size)
  replace fJ := fJ.u b63
  refine wl_p (fun _ => o_assign rfl) ?_
  refine wl_nil ?_
  refine rk_seq ?_
  refine rk_region ?_
  refine wl_p (fun _ => o_move rfl) ?_
  refine wl_call rfl (K_jsSync _ fJ hS2 hQ2) ?_
  rintro _ w65 ⟨rfl, fK, hJ⟩
  have hw2 := hw.trans (hJ.own fJ (Nat.le_refl _))
  clear hw fJ f51
  have hw := hw2
  clear hw2 hJ
  refine wl_p (fun _ => o_assign rfl) ?_
  refine wl_nil ?_
  refine rk_seq ?_
  refine rk_region ?_
  refine wl_p (fun _ => o_move rfl) ?_
  refine wl_call rfl (C_jsSynced _ fK) ?_
  rintro v67 w67 ⟨rfl, b67⟩
  have s67 := b67.size
  replace hw := hw.trans (b67.mono hw.size)
  replace fK := fK.u b67
  refine wl_p (fun _ => o_assign rfl) ?_
  refine wl_nil ?_
  refine rk_seq ?_
  refine rk_region ?_
  refine wl_p (fun _ => o_move rfl) ?_
  refine wl_p (fun _ => (o_buildg [_, _] Tryz.underlying37 Tryz.zeroValue37 (by rfl) (by rfl) rfl (by rfl) (by rfl) (fun _ => by kernel_rfl))) ?_
  refine wl_litRecR (k1 := 8) (p1 := []) (w0 := w67) rfl rfl Rd.nil_ (Below.refl _ _) rfl (by decide) (by decide) rfl ?_
  rintro A70 w70 f70 b70
  have sb70 := b70.size
  replace hw := hw.trans (b70.mono hw.size)
  replace fK := fK.u b70
  refine wl_call rfl (K_jsSwitch (e1 := 1) _ fK f70 rfl (by simpa using hO8) (by decide) rfl hS3 hQ3) ?_
  rintro _ w71 ⟨rfl, L2, fL, hJ, hL2⟩
  have hw2 := hw.trans (hJ.own fK (Nat.le_refl _))
  clear hw fK f70
  have hw := hw2
  clear hw2 hJ
  refine wl_p (fun _ => o_assign rfl) ?_
  refine wl_nil ?_
  refine rk_seq ?_
  refine rk_region ?_
  refine wl_p (fun _ => o_move rfl) ?_
  refine wl_call rfl (C_jsRecords _ fL) ?_
  rintro v73 w73 ⟨A73, ⟨c73, ⟨rfl, ⟨f73, b73⟩⟩⟩⟩
  have qf73 := f73.cap
  have s73 := b73.size
  replace hw := hw.trans (b73.mono hw.size)
  replace fL := fL.u b73
  refine wl_p (fun _ => o_assign rfl) ?_
  refine wl_nil ?_
  refine rk_seq ?_
  refine rk_region ?_
  dsimp only [List.append]
  refine wl_call rfl (C_lives09 _) ?_
  rintro v74 w74 ⟨rfl, b74⟩
  have s74 := b74.size
  replace hw := hw.trans (b74.mono hw.size)
  replace fL := fL.u b74
  replace f73 := f73.u b74
  refine wl_p (fun _ => o_move rfl) ?_
  refine wl_p (fun _ => o_move rfl) ?_
  refine wl_p (fun _ => o_eq rfl rfl) ?_
  refine wl_p (fun _ => o_pick_t rfl rfl) ?_
  refine wl_p (fun _ => o_move rfl) ?_
  refine wl_p (fun _ => o_move rfl) ?_
  refine wl_p (fun _ => o_eq rfl rfl) ?_
  refine wl_p (fun _ => o_pick_t rfl rfl) ?_
  refine wl_p (fun _ => o_move rfl) ?_
  refine wl_p (fun _ => o_move rfl) ?_
  refine wl_p (fun _ => o_eq rfl rfl) ?_
  refine wl_p (fun _ => o_pick_t rfl rfl) ?_
  refine wl_p (fun _ => o_move rfl) ?_
  refine wl_p (fun _ => o_move rfl) ?_
  refine wl_p (fun _ => o_eq rfl rfl) ?_
  refine wl_p (fun _ => o_pick_t rfl rfl) ?_
  refine wl_p (fun _ => o_move rfl) ?_
  refine wl_p (fun _ => o_move rfl) ?_
  refine wl_p (fun _ => o_eq rfl rfl) ?_
  refine wl_p (fun _ => o_pick_t rfl rfl) ?_
  refine wl_p (fun _ => o_move rfl) ?_
  refine wl_p (fun _ => o_move rfl) ?_
  refine wl_p (fun _ => o_eq rfl rfl) ?_
  refine wl_p (fun _ => o_pick_t rfl rfl) ?_
  refine wl_p (fun _ => o_move rfl) ?_
  refine wl_p (fun _ => o_move rfl) ?_
  refine wl_p (fun _ => o_eq rfl rfl) ?_
  refine wl_p (fun _ => o_pick_t rfl rfl) ?_
  refine wl_p (fun _ => o_move rfl) ?_
  refine wl_p (fun _ => o_move rfl) ?_
  refine wl_p (fun _ => o_eq rfl rfl) ?_
  refine wl_p (fun _ => o_pick_t rfl rfl) ?_
  refine wl_p (fun _ => o_move rfl) ?_
  refine wl_p (fun _ => o_move rfl) ?_
  refine wl_p (fun _ => o_eq rfl rfl) ?_
  refine wl_p (fun _ => o_pick_t rfl rfl) ?_
  refine wl_p (fun _ => o_move rfl) ?_
  refine wl_p (fun _ => o_move rfl) ?_
  refine wl_p (fun _ => o_eq rfl rfl) ?_
  refine wl_p (fun _ => o_pick_t rfl rfl) ?_
  refine wl_p (fun _ => o_move rfl) ?_
  refine wl_p (fun _ => o_move rfl) ?_
  refine wl_p (fun _ => o_eq rfl rfl) ?_
  refine wl_p (fun _ => o_pick_t rfl rfl) ?_
  refine wl_p (fun _ => o_move rfl) ?_
  refine wl_p (fun _ => o_move rfl) ?_
  refine wl_p (fun _ => o_len (t := 44) Tryz.underlying44 rfl) ?_
  refine wl_p (fun _ => o_eq rfl rfl) ?_
  refine wl_p (fun _ => o_pick_t rfl rfl) ?_
  refine wl_p (fun _ => o_move rfl) ?_
  refine wl_p (fun _ => o_move rfl) ?_
  refine wl_know 124 true rfl (by simp) ?_
  obtain ⟨A1, c1, k1, k2, k3, k4⟩ := f73.to_RRec.elem (i := 0) (by decide)
  refine wl_p (fun _ => o_iaddrA 0 Tryz.underlying44 Tryz.sizeOf37 rfl rfl rfl (f73.some_ (by decide)) (by decide)) ?_
  refine wl_p (fun _ => (o_faddrR rfl Tryz.underlying37 (by rfl) Tryz.sizeOf5 (by rfl) (by rfl))) ?_
  refine wl_r (o_load (t := 5) Tryz.isAgg5 rfl (k1 0 _ rfl)) ?_
  refine wl_p (fun _ => o_eq rfl rfl) ?_
  refine wl_p (fun _ => o_pick_t rfl rfl) ?_
  refine wl_p (fun _ => o_move rfl) ?_
  refine wl_p (fun _ => o_move rfl) ?_
  refine wl_call rfl (C_jsEpoch _ fL) ?_
  rintro v133 w133 ⟨rfl, b133⟩
  have s133 := b133.size
  replace hw := hw.trans (b133.mono hw.size)
  replace k2 := k2.u b133
  replace k1 := k1.u b133
  replace f73 := f73.u b133
  replace fL := fL.u b133
  refine wl_p (fun _ => o_eq rfl rfl) ?_
  refine wl_p (fun _ => o_pick_t rfl rfl) ?_
  refine wl_p (fun _ => o_move rfl) ?_
  refine wl_p (fun _ => o_move rfl) ?_
  refine wl_call rfl (C_jsSynced _ fL) ?_
  rintro v138 w138 ⟨rfl, b138⟩
  have s138 := b138.size
  replace hw := hw.trans (b138.mono hw.size)
  replace fL := fL.u b138
  replace f73 := f73.u b138
  replace k1 := k1.u b138
  replace k2 := k2.u b138
  refine wl_p (fun _ => o_eq rfl rfl) ?_
  refine wl_p (fun _ => o_pick_t rfl rfl) ?_
  refine wl_p (fun _ => o_move rfl) ?_
  refine wl_call rfl (C_jSectorsY _ (by omega)) ?_
  rintro v142 w142 ⟨rfl, rfl⟩
  refine wl_p (fun _ => o_eq rfl rfl) ?_
  refine wl_p (fun _ => o_pick_t rfl rfl) ?_
  refine wl_p (fun _ => o_move rfl) ?_
  refine wl_call rfl (C_jSectorsN _ (by omega)) ?_
  rintro v146 w146 ⟨rfl, rfl⟩
  refine wl_p (fun _ => o_eq rfl rfl) ?_
  refine wl_p (fun _ => o_pick_t rfl rfl) ?_
  refine wl_p (fun _ => o_move rfl) ?_
  refine wl_p (fun _ => o_pick_t rfl rfl) ?_
  refine wl_p (fun _ => o_assign rfl) ?_
  refine wl_nil ?_
  refine ret1 rfl rfl ?_
  exact ⟨rfl, hw⟩
end Go.Proofs.YtnnhenafhalobaaGreat
