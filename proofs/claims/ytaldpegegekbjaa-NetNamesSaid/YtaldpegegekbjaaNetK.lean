/-
  The statement NetNames: its walk.
-/
import Derived.Test.YtaldpegegekbjaaNetJ
namespace Go.Proofs.Ytaldpegegekbjaa
open Go.RowKit
set_option maxRecDepth 100000 in
set_option maxHeartbeats 4000000 in
theorem C_NetNames (w : World) : CallsR Try.prog 6 [] w fun v w' => v = .bool true ∧ Below w.heap.size w w' := by
  have e1 : netErr 8 [] = 2 := by kernel_rfl
  have e2 : putErr 3 [] 1 1 [] = 2 := by kernel_rfl
  obtain ⟨Z, hZ⟩ : ∃ Z : By, List.replicate 16385 0 = Z := ⟨_, rfl⟩
  have hZl : 16385 = Z.length := by rw [← hZ, List.length_replicate]
  have e3 : putErr 3 [] 1 0 Z = 3 := by
    have h1 : (netOk 3 [] = false ∨ isNd 3 1 = false ∨ (0 : Int) = 1 ∨ ((0 : Int) ≠ -1 ∧ isNd 3 0 = false)) = False := by
      simp only [eq_iff_iff, iff_false]; decide
    unfold putErr
    rw [if_neg (by rw [h1]; exact id), if_pos (by omega)]
  have e4 : netAt 3 [] 0 = 6 := by kernel_rfl
  have e5 : netAt 3 [] (-1) = 6 := by kernel_rfl
  have e6 : twiceErr 0 [] 0 = 2 := by kernel_rfl
  have e7 : netErr 3 [] = 0 := by kernel_rfl
  have w0 : (Lit.int .i64 0).wf = true := by decide
  have w1 : (Lit.int .i64 (-1)).wf = true := by decide
  have w2 : (Lit.int .i64 1).wf = true := by decide
  have ml : (0 : Nat) ≤ maxLen := Nat.zero_le _
  have ml2 : 16385 ≤ maxLen := by decide
  refine callsR Try.func6 rfl rfl (by kernel_rfl) rfl ?_
  have hw := Below.refl w.heap.size w
  refine rk_seq ?_
  refine rk_region ?_
  refine wl_p (fun _ => o_assign rfl) ?_
  refine wl_nil ?_
  refine rk_seq ?_
  refine rk_region ?_
  refine wl_call rfl (C_NewOk _ (by omega) (by omega)) ?_
  rintro v19 w19 ⟨rfl, b19⟩
  have s19 := b19.size
  replace hw := hw.trans (b19.mono hw.size)
  refine wl_p (fun _ => o_move rfl) ?_
  refine wl_p (fun _ => o_ext20 rfl) ?_
  refine wl_p (fun _ => o_ext21 rfl) ?_
  refine wl_allocg [_, _] Try.zeroValue27 (by rfl) ?_
  rintro g1 w1_1 f1 b1 i1 i1_1
  have s1 := b1.size
  replace hw := hw.trans (b1.mono hw.size)
  refine wl_storega Try.sizeOf27 rfl rfl (by rfl) (by decide) f1 (by rfl) ?_
  rintro w_1 f g e
  have s := g.size
  replace hw := hw.trans (below_of_grownBy g.g hw.size (by omega))
  clear f1
  refine wl_p (fun _ => o_assign rfl) ?_
  refine wl_nil ?_
  refine rk_seq ?_
  refine rk_region ?_
  refine wl_call rfl (C_New _ e1) ?_
  rintro v23 w23 ⟨rfl, b23⟩
  have s23 := b23.size
  replace hw := hw.trans (b23.mono hw.size)
  replace f := f.u b23
  refine wl_p (fun _ => o_move rfl) ?_
  refine wl_p (fun _ => o_ext20 rfl) ?_
  refine wl_p (fun _ => o_ext21 rfl) ?_
  refine wl_allocg [_, _] Try.zeroValue27 (by rfl) ?_
  rintro g3 w3 f3 b3 i3 i3_1
  have s3 := b3.size
  replace hw := hw.trans (b3.mono hw.size)
  replace f := f.u b3
  refine wl_storega Try.sizeOf27 rfl rfl (by rfl) (by decide) f3 (by rfl) ?_
  rintro w_2 f_1 g_1 e_1
  have s_1 := g_1.size
  replace hw := hw.trans (below_of_grownBy g_1.g hw.size (by omega))
  replace f := f.k g_1.g (ap_some (by omega))
  clear f3
  refine wl_p (fun _ => o_assign rfl) ?_
  refine wl_nil ?_
  refine rk_seq ?_
  refine rk_region ?_
  refine wl_r (o_loadag Try.isAgg27 Try.sizeOf27 rfl f (by rfl)) ?_
  refine wl_p (fun _ => (o_buildg [_, _] Try.underlying34 Try.zeroValue34 (by rfl) (by rfl) rfl (by rfl) (by rfl) (fun _ => by kernel_rfl))) ?_
  refine wl_call rfl (C_Put _ (REn.nil_) (Rd.nil_) e2 (by rfl) (by omega) (by rfl) (by omega) w2 w2) ?_
  rintro v29 w29 ⟨k29, ⟨A29, ⟨c29, ⟨Q29, ⟨x29, ⟨rfl, ⟨f29, ⟨i29, ⟨i29_1, b29⟩⟩⟩⟩⟩⟩⟩⟩⟩
  have qf29 := f29.cap
  have s29 := b29.size
  replace hw := hw.trans (b29.mono hw.size)
  replace f := f.u b29
  replace f_1 := f_1.u b29
  refine wl_p (fun _ => o_move rfl) ?_
  refine wl_p (fun _ => o_ext30 rfl) ?_
  refine wl_p (fun _ => o_ext31 rfl) ?_
  refine wl_p (fun _ => o_ext32 rfl) ?_
  refine wl_allocg [_, _] Try.zeroValue27 (by rfl) ?_
  rintro g5 w5 f5 b5 i5 i5_1
  have s5 := b5.size
  replace hw := hw.trans (b5.mono hw.size)
  replace f_1 := f_1.u b5
  replace f := f.u b5
  replace f29 := f29.u b5
  refine wl_storega Try.sizeOf27 rfl rfl (by rfl) (oneCell_of (by rfl)) f5 (by rfl) ?_
  rintro w_3 f_2 g_2 e_2
  have s_2 := g_2.size
  replace hw := hw.trans (below_of_grownBy g_2.g hw.size (by omega))
  replace f29 := f29.y g_2 (by decide)
  replace f := f.k g_2.g (ap_some (by omega))
  replace f_1 := f_1.k g_2.g (ap_some (by omega))
  clear f5
  refine wl_p (fun _ => o_assign rfl) ?_
  refine wl_p (fun _ => o_assign rfl) ?_
  refine wl_nil ?_
  refine rk_seq ?_
  refine rk_drawo (id := 4) (none) [0, 0, 2, 5, 8, 16, 16, 16, 0, 319, 895, 2047] [0, 0, 2, 7, 15, 31, 31, 31, 0, 319, 895, 2047] 778 258 [0] [(.s, 0), (.f 1 778 258, 11)] (by kernel_rfl) (by kernel_rfl) (by kernel_rfl) (by kernel_rfl) (by kernel_rfl) ?_
  dsimp only [inOrder, nthOp]
  replace hw := hw.drew
  replace f_1 := f_1.d
  replace f := f.d
  replace f29 := f29.d
  replace f_2 := f_2.d
  refine wl_s (fun _ hk => (o_loadag Try.isAgg27 Try.sizeOf27 rfl (f.u (below_of_grown_none hk)) (by rfl))) ?_
  refine wl_forkf (m := 1) (L := 778) (C := 258) (n := 11) (k1 := 1) (k2 := 8) (fun fb fr w' => ∃ g8 k' A' c' q x, fr = [(8, .pointer (some ⟨g8, 0, none⟩)), (38, .agg #[.int .i64 k', .slice A' q c']), (39, .int .i64 x), (40, .int .i64 3)] ++ fb ∧ Blk w' g8 27 [.int .i64 0, .slice none 0 0] ∧ Blk w' g1 27 [.int .i64 3, .slice none 0 0] ∧ w.heap.size ≤ g8 ∧ g1 < g8 ∧ Below w.heap.size w w') [0, 0, 2, 5, 8, 16, 16, 16, 0, 319, 895, 2047] [0, 0, 2, 7, 15, 31, 31, 31, 0, 319, 895, 2047] [1, 2] [8, 1, 2, 3, 4, 5, 6, 7, 9, 10, 11] [9, 10, 11] [(.p, 2), (.f 7 778 258, 9)] [(.c, 1), (.p, 2), (.l, 3), (.p, 4), (.p, 5), (.p, 6), (.p, 7), (.l, 9), (.p, 10), (.p, 11)] [(.l, 9), (.p, 10), (.p, 11)] (by kernel_rfl) (by kernel_rfl) (by kernel_rfl) (by kernel_rfl) (by kernel_rfl) ?_ (fun hj => ?_) (fun hj => ?_) <;> dsimp only [inOrder, nthOp]
  · clear hw f f_1 f_2 f29
    rintro fr w' ⟨g8, k', A', c', q, x, rfl, f8, f1, i8, j8, hw⟩
    have hg1 := f1.lt
    have hg8 := f8.lt
    have shw := hw.size
    first | refine rk_frame (by simp only [List.cons_append, List.nil_append, List.drop_succ_cons, List.drop_zero]; rfl) ?_ | refine wl_frame (by simp only [List.cons_append, List.nil_append, List.drop_succ_cons, List.drop_zero]; rfl) ?_
    refine wl_storega Try.sizeOf27 rfl rfl (by rfl) (oneCell_of (by rfl)) f8 (by rfl) ?_
    rintro w_4 f g_3 e_3
    have s_3 := g_3.size
    replace hw := hw.trans (below_of_grownBy g_3.g hw.size (by omega))
    replace f1 := f1.k g_3.g (ap_some (by omega))
    clear f8
    refine wl_p (fun _ => o_assign rfl) ?_
    refine wl_p (fun _ => o_assign rfl) ?_
    refine wl_nild ?_
    refine rk_seq ?_
    refine rk_region ?_
    refine wl_r (o_loadag Try.isAgg27 Try.sizeOf27 rfl f1 (by rfl)) ?_
    refine wl_call rfl (C_Take _ (REn.nil_) e4 (by rfl) (by omega) w0) ?_
    rintro v43 w43 ⟨x43, ⟨A143, ⟨c143, ⟨k43, ⟨A43, ⟨c43, ⟨Q43, ⟨rfl, ⟨f43, ⟨f43_1, ⟨i43, ⟨i43_1, b43⟩⟩⟩⟩⟩⟩⟩⟩⟩⟩⟩⟩
    have qf43 := f43.cap
    have qf43_1 := f43_1.cap
    have s43 := b43.size
    replace hw := hw.trans (b43.mono hw.size)
    replace f1 := f1.u b43
    replace f := f.u b43
    refine wl_p (fun _ => o_move rfl) ?_
    refine wl_p (fun _ => o_ext30 rfl) ?_
    refine wl_p (fun _ => o_ext31 rfl) ?_
    refine wl_p (fun _ => o_ext32 rfl) ?_
    refine wl_allocg [_, _, _] Try.zeroValue38 (by rfl) ?_
    rintro g11 w11 f11 b11 i11 i11_1
    have s11 := b11.size
    replace hw := hw.trans (b11.mono hw.size)
    replace f := f.u b11
    replace f1 := f1.u b11
    replace f43_1 := f43_1.u b11
    replace f43 := f43.u b11
    refine wl_allocg [_, _] Try.zeroValue27 (by rfl) ?_
    rintro g12 w12 f12 b12 i12 i12_1
    have s12 := b12.size
    replace hw := hw.trans (b12.mono hw.size)
    replace f43 := f43.u b12
    replace f43_1 := f43_1.u b12
    replace f1 := f1.u b12
    replace f := f.u b12
    replace f11 := f11.u b12
    refine wl_storega Try.sizeOf38 rfl rfl (by rfl) (oneCell_of (by rfl)) f11 (by rfl) ?_
    rintro w_5 f_1 g_4 e_4
    have s_4 := g_4.size
    replace hw := hw.trans (below_of_grownBy g_4.g hw.size (by omega))
    clear f11
    replace f := f.k g_4.g (ap_some (by omega))
    replace f1 := f1.k g_4.g (ap_some (by omega))
    replace f43_1 := f43_1.k g_4.g (ap_some (by omega))
    replace f43 := f43.q g_4 (ap_some (by omega)) (by decide)
    replace f12 := f12.k g_4.g (ap_some (by omega))
    refine wl_storega Try.sizeOf27 rfl rfl (by rfl) (oneCell_of (by rfl)) f12 (by rfl) ?_
    rintro w_6 f_2 g_5 e_5
    have s_5 := g_5.size
    replace hw := hw.trans (below_of_grownBy g_5.g hw.size (by omega))
    clear f12
    replace f43 := f43.y g_5 (by decide)
    replace f43_1 := f43_1.k g_5.g (ap_some (by omega))
    replace f1 := f1.k g_5.g (ap_some (by omega))
    replace f := f.k g_5.g (ap_some (by omega))
    replace f_1 := f_1.k g_5.g (ap_some (by omega))
    refine wl_p (fun _ => o_assign rfl) ?_
    refine wl_nil ?_
    refine rk_seq ?_
    refine rk_region ?_
    refine wl_r (o_loadag Try.isAgg27 Try.sizeOf27 rfl f1 (by rfl)) ?_
    refine wl_call rfl (C_Drop _ (REn.nil_) e5 (by rfl) (by omega) w1) ?_
    rintro v49 w49 ⟨k49, ⟨A49, ⟨c49, ⟨Q49, ⟨rfl, ⟨f49, ⟨i49, ⟨i49_1, b49⟩⟩⟩⟩⟩⟩⟩⟩
    have qf49 := f49.cap
    have s49 := b49.size
    replace hw := hw.trans (b49.mono hw.size)
    replace f_1 := f_1.u b49
    replace f := f.u b49
    replace f1 := f1.u b49
    replace f43_1 := f43_1.u b49
    replace f43 := f43.u b49
    replace f_2 := f_2.u b49
    refine wl_p (fun _ => o_move rfl) ?_
    refine wl_p (fun _ => o_ext20 rfl) ?_
    refine wl_p (fun _ => o_ext21 rfl) ?_
    refine wl_allocg [_, _] Try.zeroValue27 (by rfl) ?_
    rintro g14 w14 f14 b14 i14 i14_1
    have s14 := b14.size
    replace hw := hw.trans (b14.mono hw.size)
    replace f_2 := f_2.u b14
    replace f43 := f43.u b14
    replace f43_1 := f43_1.u b14
    replace f1 := f1.u b14
    replace f := f.u b14
    replace f_1 := f_1.u b14
    replace f49 := f49.u b14
    refine wl_storega Try.sizeOf27 rfl rfl (by rfl) (oneCell_of (by rfl)) f14 (by rfl) ?_
    rintro w_7 f_3 g_6 e_6
    have s_6 := g_6.size
    replace hw := hw.trans (below_of_grownBy g_6.g hw.size (by omega))
    replace f49 := f49.y g_6 (by decide)
    replace f_1 := f_1.k g_6.g (ap_some (by omega))
    replace f := f.k g_6.g (ap_some (by omega))
    replace f1 := f1.k g_6.g (ap_some (by omega))
    replace f43_1 := f43_1.k g_6.g (ap_some (by omega))
    replace f43 := f43.y g_6 (by decide)
    replace f_2 := f_2.k g_6.g (ap_some (by omega))
    clear f14
    refine wl_p (fun _ => o_assign rfl) ?_
    refine wl_nil ?_
    refine rk_seq ?_
    refine rk_region ?_
    refine wl_p (fun _ => (o_buildg [_, _] Try.underlying27 Try.zeroValue27 (by rfl) (by rfl) rfl (by rfl) (by rfl) (fun _ => by kernel_rfl))) ?_
    refine wl_call rfl (C_Twice _ (REn.nil_) (by rfl) (by rfl) (by omega) w0) ?_
    rintro v54 w54 ⟨k54, ⟨A54, ⟨c54, ⟨Q54, ⟨rfl, ⟨f54, ⟨i54, ⟨i54_1, b54⟩⟩⟩⟩⟩⟩⟩⟩
    have qf54 := f54.cap
    have s54 := b54.size
    replace hw := hw.trans (b54.mono hw.size)
    replace f_2 := f_2.u b54
    replace f43 := f43.u b54
    replace f43_1 := f43_1.u b54
    replace f1 := f1.u b54
    replace f := f.u b54
    replace f_1 := f_1.u b54
    replace f49 := f49.u b54
    replace f_3 := f_3.u b54
    refine wl_p (fun _ => o_move rfl) ?_
    refine wl_p (fun _ => o_ext20 rfl) ?_
    refine wl_p (fun _ => o_ext21 rfl) ?_
    refine wl_allocg [_, _] Try.zeroValue27 (by rfl) ?_
    rintro g16 w16 f16 b16 i16 i16_1
    have s16 := b16.size
    replace hw := hw.trans (b16.mono hw.size)
    replace f_3 := f_3.u b16
    replace f49 := f49.u b16
    replace f_1 := f_1.u b16
    replace f := f.u b16
    replace f1 := f1.u b16
    replace f43_1 := f43_1.u b16
    replace f43 := f43.u b16
    replace f_2 := f_2.u b16
    replace f54 := f54.u b16
    refine wl_storega Try.sizeOf27 rfl rfl (by rfl) (oneCell_of (by rfl)) f16 (by rfl) ?_
    rintro w_8 f_4 g_7 e_7
    have s_7 := g_7.size
    replace hw := hw.trans (below_of_grownBy g_7.g hw.size (by omega))
    replace f54 := f54.y g_7 (by decide)
    replace f_2 := f_2.k g_7.g (ap_some (by omega))
    replace f43 := f43.y g_7 (by decide)
    replace f43_1 := f43_1.k g_7.g (ap_some (by omega))
    replace f1 := f1.k g_7.g (ap_some (by omega))
    replace f := f.k g_7.g (ap_some (by omega))
    replace f_1 := f_1.k g_7.g (ap_some (by omega))
    replace f49 := f49.y g_7 (by decide)
    replace f_3 := f_3.k g_7.g (ap_some (by omega))
    clear f16
    refine wl_p (fun _ => o_assign rfl) ?_
    refine wl_nil ?_
    refine rk_seq ?_
    refine rk_region ?_
    refine wl_call rfl (C_livesN _) ?_
    rintro v57 w57 ⟨rfl, b57⟩
    have s57 := b57.size
    replace hw := hw.trans (b57.mono hw.size)
    replace f_3 := f_3.u b57
    replace f49 := f49.u b57
    replace f_1 := f_1.u b57
    replace f := f.u b57
    replace f1 := f1.u b57
    replace f43_1 := f43_1.u b57
    replace f43 := f43.u b57
    replace f_2 := f_2.u b57
    replace f54 := f54.u b57
    replace f_4 := f_4.u b57
    refine wl_p (fun _ => o_move rfl) ?_
    refine wl_p (fun _ => o_move rfl) ?_
    refine wl_p (fun _ => o_eq rfl rfl) ?_
    refine wl_p (fun _ => o_pick_t rfl rfl) ?_
    refine wl_p (fun _ => o_move rfl) ?_
    refine wl_p (fun _ => o_move rfl) ?_
    refine wl_p (fun _ => o_eq rfl rfl) ?_
    refine wl_p (fun _ => o_pick_t rfl rfl) ?_
    refine wl_p (fun _ => o_move rfl) ?_
    refine wl_p (fun _ => o_move rfl) ?_
    refine wl_p (fun _ => o_eq rfl rfl) ?_
    refine wl_p (fun _ => o_pick_t rfl rfl) ?_
    refine wl_p (fun _ => o_move rfl) ?_
    refine wl_p (fun _ => o_move rfl) ?_
    refine wl_p (fun _ => o_eq rfl rfl) ?_
    refine wl_p (fun _ => o_pick_t rfl rfl) ?_
    refine wl_p (fun _ => o_move rfl) ?_
    refine wl_p (fun _ => o_move rfl) ?_
    refine wl_p (fun _ => o_eq rfl rfl) ?_
    refine wl_p (fun _ => o_pick_t rfl rfl) ?_
    refine wl_p (fun _ => o_move rfl) ?_
    refine wl_p (fun _ => o_move rfl) ?_
    refine wl_p (fun _ => o_eq rfl rfl) ?_
    refine wl_p (fun _ => o_pick_t rfl rfl) ?_
    refine wl_p (fun _ => o_move rfl) ?_
    refine wl_r (o_loadag Try.isAgg27 Try.sizeOf27 rfl f1 (by rfl)) ?_
    refine wl_call rfl (C_Check _ (REn.nil_) e7 (by rfl) (by omega)) ?_
    rintro v84 w84 ⟨rfl, b84⟩
    have s84 := b84.size
    replace hw := hw.trans (b84.mono hw.size)
    replace f_4 := f_4.u b84
    replace f54 := f54.u b84
    replace f_2 := f_2.u b84
    replace f43 := f43.u b84
    replace f43_1 := f43_1.u b84
    replace f1 := f1.u b84
    replace f := f.u b84
    replace f_1 := f_1.u b84
    replace f49 := f49.u b84
    replace f_3 := f_3.u b84
    refine wl_p (fun _ => o_eq rfl rfl) ?_
    refine wl_p (fun _ => o_pick_t rfl rfl) ?_
    refine wl_p (fun _ => o_move rfl) ?_
    refine wl_r (o_loadag Try.isAgg27 Try.sizeOf27 rfl f1 (by rfl)) ?_
    refine wl_r (o_loadag Try.isAgg27 Try.sizeOf27 rfl f1 (by rfl)) ?_
    refine wl_call rfl (C_SameN _ (REn.nil_) (REn.nil_) (by rfl) (by rfl) (by simp) (by simp)) ?_
    rintro v90 w90 ⟨rfl, b90⟩
    have s90 := b90.size
    replace hw := hw.trans (b90.mono hw.size)
    replace f_3 := f_3.u b90
    replace f49 := f49.u b90
    replace f_1 := f_1.u b90
    replace f := f.u b90
    replace f1 := f1.u b90
    replace f43_1 := f43_1.u b90
    replace f43 := f43.u b90
    replace f_2 := f_2.u b90
    replace f54 := f54.u b90
    replace f_4 := f_4.u b90
    refine wl_p (fun _ => o_pick_t rfl rfl) ?_
    refine wl_p (fun _ => o_move rfl) ?_
    refine wl_p (fun _ => o_pick_t rfl rfl) ?_
    refine wl_p (fun _ => o_assign rfl) ?_
    refine wl_nil ?_
    refine ret1 rfl rfl ?_
    exact ⟨rfl, hw⟩
  · refine wl_mkBz (16385) rfl rfl (by omega) (by rfl) (by omega) hZ ?_
    rintro A35 w35 f35 b35
    simp only [drew_size] at f35
    simp only [drew_size] at b35
    have qf35 := f35.cap
    have s35 := b35.size
    simp only [drew_size] at s35
    replace hw := hw.trans (b35.mono hw.size)
    replace f_2 := f_2.u b35
    replace f29 := f29.u b35
    replace f := f.u b35
    replace f_1 := f_1.u b35
    refine wl_p (fun _ => (o_buildg [_, _] Try.underlying34 Try.zeroValue34 (by rfl) (by rfl) rfl (by rfl) (by rfl) (fun _ => by kernel_rfl))) ?_
    refine wl_fork2j (m := 7) (L := 778) (C := 258) (n := 9) (k1 := 3) (k2 := 8) _ [0, 0, 2, 5, 8, 16, 16, 16, 0, 319, 895, 2047] [0, 0, 2, 7, 15, 31, 31, 31, 0, 319, 895, 2047] [3, 4, 5, 6, 7, 8, 9, 10, 11] [8, 3, 4, 5, 6, 7, 9, 10, 11] [9, 10, 11] [(.p, 4), (.p, 5), (.p, 6), (.p, 7), (.c, 8), (.l, 9), (.p, 10), (.p, 11)] [(.l, 3), (.p, 4), (.p, 5), (.p, 6), (.p, 7), (.l, 9), (.p, 10), (.p, 11)] [(.l, 9), (.p, 10), (.p, 11)] (by kernel_rfl) (by kernel_rfl) (by kernel_rfl) (by kernel_rfl) (by kernel_rfl) hj (fun hj => ?_) (fun hj => ?_) <;> dsimp only [inOrder, nthOp]
    · refine wl_call rfl (C_Put _ (REn.nil_) f35.to_Rd e3 (by rfl) (by omega) hZl (by omega) w2 w0) ?_
      rintro v37 w37 ⟨k37, ⟨A37, ⟨c37, ⟨Q37, ⟨x37, ⟨rfl, ⟨f37, ⟨i37, ⟨i37_1, b37⟩⟩⟩⟩⟩⟩⟩⟩⟩
      have qf37 := f37.cap
      have s37 := b37.size
      replace hw := hw.trans (b37.mono hw.size)
      replace f_1 := f_1.u b37
      replace f := f.u b37
      replace f29 := f29.u b37
      replace f_2 := f_2.u b37
      replace f35 := f35.u b37
      refine wl_p (fun _ => o_move rfl) ?_
      refine wl_p (fun _ => o_ext30 rfl) ?_
      refine wl_p (fun _ => o_ext31 rfl) ?_
      refine wl_p (fun _ => o_ext32 rfl) ?_
      refine wl_allocg [_, _] Try.zeroValue27 (by rfl) ?_
      rintro g8 w8 f8 b8 i8 i8_1
      have s8 := b8.size
      replace hw := hw.trans (b8.mono hw.size)
      replace f35 := f35.u b8
      replace f_2 := f_2.u b8
      replace f29 := f29.u b8
      replace f := f.u b8
      replace f_1 := f_1.u b8
      replace f37 := f37.u b8
      exact wl_tof hj (Fr.le_of (by kernel_rfl) (by kernel_rfl) (by repeat' constructor)) ⟨g8, _, _, _, _, _, rfl, f8, f, by omega, by omega, hw⟩
    · refine wl_allocg [_, _] Try.zeroValue27 (by rfl) ?_
      rintro g8 w8 f8 b8 i8 i8_1
      have s8 := b8.size
      replace hw := hw.trans (b8.mono hw.size)
      replace f_1 := f_1.u b8
      replace f := f.u b8
      replace f29 := f29.u b8
      replace f_2 := f_2.u b8
      replace f35 := f35.u b8
      refine wl_call rfl (C_Put _ (REn.nil_) f35.to_Rd e3 (by rfl) (by omega) hZl (by omega) w2 w0) ?_
      rintro v37 w37 ⟨k37, ⟨A37, ⟨c37, ⟨Q37, ⟨x37, ⟨rfl, ⟨f37, ⟨i37, ⟨i37_1, b37⟩⟩⟩⟩⟩⟩⟩⟩⟩
      have qf37 := f37.cap
      have s37 := b37.size
      replace hw := hw.trans (b37.mono hw.size)
      replace f35 := f35.u b37
      replace f_2 := f_2.u b37
      replace f29 := f29.u b37
      replace f := f.u b37
      replace f_1 := f_1.u b37
      replace f8 := f8.u b37
      refine wl_p (fun _ => o_move rfl) ?_
      refine wl_p (fun _ => o_ext30 rfl) ?_
      refine wl_p (fun _ => o_ext31 rfl) ?_
      refine wl_p (fun _ => o_ext32 rfl) ?_
      exact wl_tof hj (Fr.le_of (by kernel_rfl) (by kernel_rfl) (by repeat' constructor)) ⟨g8, _, _, _, _, _, rfl, f8, f, by omega, by omega, hw⟩
  · refine wl_allocg [_, _] Try.zeroValue27 (by rfl) ?_
    rintro g8 w8 f8 b8 i8 i8_1
    simp only [drew_size] at b8
    simp only [drew_size] at i8
    have s8 := b8.size
    simp only [drew_size] at s8
    replace hw := hw.trans (b8.mono hw.size)
    replace f_2 := f_2.u b8
    replace f29 := f29.u b8
    replace f := f.u b8
    replace f_1 := f_1.u b8
    refine wl_mkBz (16385) rfl rfl (by omega) (by rfl) (by omega) hZ ?_
    rintro A35 w35 f35 b35
    have qf35 := f35.cap
    have s35 := b35.size
    replace hw := hw.trans (b35.mono hw.size)
    replace f_1 := f_1.u b35
    replace f := f.u b35
    replace f29 := f29.u b35
    replace f_2 := f_2.u b35
    replace f8 := f8.u b35
    refine wl_p (fun _ => (o_buildg [_, _] Try.underlying34 Try.zeroValue34 (by rfl) (by rfl) rfl (by rfl) (by rfl) (fun _ => by kernel_rfl))) ?_
    refine wl_call rfl (C_Put _ (REn.nil_) f35.to_Rd e3 (by rfl) (by omega) hZl (by omega) w2 w0) ?_
    rintro v37 w37 ⟨k37, ⟨A37, ⟨c37, ⟨Q37, ⟨x37, ⟨rfl, ⟨f37, ⟨i37, ⟨i37_1, b37⟩⟩⟩⟩⟩⟩⟩⟩⟩
    have qf37 := f37.cap
    have s37 := b37.size
    replace hw := hw.trans (b37.mono hw.size)
    replace f8 := f8.u b37
    replace f_2 := f_2.u b37
    replace f29 := f29.u b37
    replace f := f.u b37
    replace f_1 := f_1.u b37
    replace f35 := f35.u b37
    refine wl_p (fun _ => o_move rfl) ?_
    refine wl_p (fun _ => o_ext30 rfl) ?_
    refine wl_p (fun _ => o_ext31 rfl) ?_
    refine wl_p (fun _ => o_ext32 rfl) ?_
    exact wl_tof hj (Fr.le_of (by kernel_rfl) (by kernel_rfl) (by repeat' constructor)) ⟨g8, _, _, _, _, _, rfl, f8, f, by omega, by omega, hw⟩
end Go.Proofs.Ytaldpegegekbjaa
