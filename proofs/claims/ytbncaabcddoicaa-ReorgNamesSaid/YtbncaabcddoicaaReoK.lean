/-
  The walk of ReorgNames.
-/
import Derived.Test.YtbncaabcddoicaaReoJ
namespace Go.Proofs.Ytbncaabcddoicaa
open Go.RowKit

theorem names_facts : ∃ (a b o : List Dg) (p q : Pl), a = ([1, 2] : List Int).map nm ∧ b = ([1, 3] : List Int).map nm ∧ o = ([1, 1] : List Int).map nm ∧ p = ⟨1, ([2] : List Int).map nm, ([3] : List Int).map nm⟩ ∧ q = ⟨1, ([3] : List Int).map nm, ([2] : List Int).map nm⟩ ∧
    a.length = 2 ∧ b.length = 2 ∧ o.length = 2 ∧ lim p ∧ lim q ∧ pFrom a b = (p, 0) ∧ pBack p = (q, 0) ∧ pFrom o [] = (pl0, 2) ∧ pApply q b = (a, 0) ∧ pCheck ⟨-1, [], []⟩ = 2 ∧ pCheck ⟨0, a, a⟩ = 2 ∧ pBad p = false ∧ p.undo.length = 1 ∧ p.keep = 1 ∧ p ≠ q :=
  ⟨_, _, _, _, _, rfl, rfl, rfl, rfl, rfl, rfl, rfl, rfl, ⟨by simp, by simp⟩, ⟨by simp, by simp⟩, by decide +kernel, by decide +kernel, by decide +kernel, by decide +kernel, by decide +kernel, by decide +kernel, by decide +kernel, rfl, rfl, by decide +kernel⟩

theorem Try.build_Planm (w : World) : (Instr.build 25 ([0].zip [Value.int .i64 (-1)]).toArray).run Try.prog w = .ok (.agg #[.int .i64 (-1), .slice none 0 0, .slice none 0 0]) w := by kernel_rfl
theorem Try.build_Plan12 (A B : Option Addr) (n c m d : Nat) (w : World) : (Instr.build 25 ([1, 2].zip [Value.slice A n c, Value.slice B m d]).toArray).run Try.prog w = .ok (.agg #[.int .i64 0, .slice A n c, .slice B m d]) w := by kernel_rfl

set_option maxHeartbeats 1000000 in
theorem C_ReorgNames (w : World) : CallsR Try.prog 6 [] w fun v w' => v = .bool true ∧ Below w.heap.size w w' := by
  obtain ⟨a, b, o, p, q, ha, hb, ho, hp, hq, la, lb, lo, hlp, hlq, f1, f2, f3, f4, f5, f6, f7, f8, f9, f10⟩ := names_facts
  refine callsR Try.func6 rfl rfl (by kernel_rfl) rfl ?_
  refine rk_seq ?_
  refine rk_region ?_
  refine wl_p (fun _ => o_assign rfl) ?_
  refine wl_nil ?_
  refine rk_seq ?_
  refine rk_region ?_
  refine wl_litZ (xs := [.const (.int .i64 1), .const (.int .i64 2)]) [1, 2] 2 rfl rfl rfl ?_
  intro w1 hr1 hb1 hz1
  refine wl_call rfl (C_names (zs := [1, 2]) 2 rfl w1 hr1 (by simp)) ?_
  rintro _ w2 ⟨A2, c2, rfl, hown2, hb2⟩
  have hw2 := hb1.trans (hb2.mono hb1.size)
  refine wl_litZ (xs := [.const (.int .i64 1), .const (.int .i64 3)]) [1, 3] 2 rfl rfl rfl ?_
  intro w3 hr3 hb3 hz3
  have hw3 := hw2.trans (hb3.mono hw2.size)
  refine wl_call rfl (C_names (zs := [1, 3]) 2 rfl w3 hr3 (by simp)) ?_
  rintro _ w4 ⟨A4, c4, rfl, hown4, hb4⟩
  have hw4 := hw3.trans (hb4.mono hw3.size)
  refine wl_p (fun _ => o_assign rfl) ?_
  refine wl_p (fun _ => o_assign rfl) ?_
  refine wl_nil ?_
  refine rk_seq ?_
  refine rk_region ?_
  refine wl_p (fun _ => o_move rfl) ?_
  refine wl_p (fun _ => o_move rfl) ?_
  have hown24 := (hown2.below hb3).below hb4
  rw [← ha] at hown24
  rw [← hb] at hown4
  refine wl_call rfl (C_From (a := a) (b := b) c2 c4 la.symm lb.symm w4 hown24.rd hown4.rd (by omega) (by omega) hown24.cap hown4.cap) ?_
  rintro _ w5 ⟨u5, rfl, hP5, hb5⟩
  have hw5 := hw4.trans (hb5.mono hw4.size)
  rw [f1] at hP5 ⊢
  obtain ⟨vs, rfl, hvl, hv1⟩ := hP5.cells
  refine wl_p (fun _ => o_move rfl) ?_
  refine wl_p (fun _ => o_ext20 rfl) ?_
  refine wl_p (fun _ => o_ext21 rfl) ?_
  refine wl_alloc pl0c Try.zeroValue25 rfl ?_
  intro w6 hB6 hb6 hz6
  refine wl_store_all Try.sizeOf25 rfl rfl hvl hv1 hB6 rfl ?_
  intro w7 hB7 hg7 hz7
  have hb57 : Below w5.heap.size w5 w7 := hb6.trans (below_of_grownBy hg7 hb6.size (Nat.le_refl _))
  have hw7 := hw5.trans (hb57.mono hw5.size)
  have hP7 := (hP5.below hb57).pl
  refine wl_p (fun _ => o_assign rfl) ?_
  refine wl_nil ?_
  refine rk_seq ?_
  refine rk_region ?_
  refine wl_r (o_load_all (t := 25) Try.isAgg25 Try.sizeOf25 rfl hB7 hvl) ?_
  refine wl_call rfl (C_Back (p := p) w7 hP7 hlp) ?_
  rintro _ w8 ⟨u8, rfl, hQ8, hb8⟩
  have hw8 := hw7.trans (hb8.mono hw7.size)
  rw [f2] at hQ8 ⊢
  obtain ⟨us, rfl, hul, hu1⟩ := hQ8.cells
  refine wl_p (fun _ => o_move rfl) ?_
  refine wl_p (fun _ => o_ext20 rfl) ?_
  refine wl_p (fun _ => o_ext21 rfl) ?_
  refine wl_alloc pl0c Try.zeroValue25 rfl ?_
  intro w9 hB9 hb9 hz9
  refine wl_store_all Try.sizeOf25 rfl rfl hul hu1 hB9 rfl ?_
  intro w10 hB10 hg10 hz10
  have hb8' : Below w8.heap.size w8 w10 := hb9.trans (below_of_grownBy hg10 hb9.size (Nat.le_refl _))
  have hw10 := hw8.trans (hb8'.mono hw8.size)
  have hQ10 := (hQ8.below hb8').pl
  refine wl_p (fun _ => o_assign rfl) ?_
  refine wl_nil ?_
  refine rk_seq ?_
  refine rk_region ?_
  refine wl_litZ (xs := [.const (.int .i64 1), .const (.int .i64 1)]) [1, 1] 2 rfl rfl rfl ?_
  intro w11 hr11 hb11 hz11
  have hw11 := hw10.trans (hb11.mono hw10.size)
  refine wl_call rfl (C_names (zs := [1, 1]) 2 rfl w11 hr11 (by simp)) ?_
  rintro _ w12 ⟨A12, c12, rfl, hown12, hb12⟩
  have hw12 := hw11.trans (hb12.mono hw11.size)
  rw [← ho] at hown12
  refine wl_call rfl (C_From (a := o) (b := []) (B := none) c12 0 lo.symm rfl w12 hown12.rd (RD.nil _ _) (by omega) (by simp) hown12.cap (by simp)) ?_
  rintro _ w13 ⟨u13, rfl, hP13, hb13⟩
  have hw13 := hw12.trans (hb13.mono hw12.size)
  rw [f3] at hP13 ⊢
  obtain ⟨xs, rfl, hxl, hx1⟩ := hP13.cells
  refine wl_p (fun _ => o_move rfl) ?_
  refine wl_p (fun _ => o_ext20 rfl) ?_
  refine wl_p (fun _ => o_ext21 rfl) ?_
  refine wl_alloc pl0c Try.zeroValue25 rfl ?_
  intro w14 hB14 hb14 hz14
  refine wl_store_all Try.sizeOf25 rfl rfl hxl hx1 hB14 rfl ?_
  intro w15 hB15 hg15 hz15
  have hb13' : Below w13.heap.size w13 w15 := hb14.trans (below_of_grownBy hg15 hb14.size (Nat.le_refl _))
  have hw15 := hw13.trans (hb13'.mono hw13.size)
  have h10_15 : Below w10.heap.size w10 w15 := hb11.trans ((hb12.mono hb11.size).trans ((hb13.mono (by have := hb11.size; have := hb12.size; omega)).trans (hb13'.mono (by have := hb11.size; have := hb12.size; have := hb13.size; omega))))
  have hB15' := hB10.under h10_15
  have hQ15 := hQ10.below h10_15
  have h4_15 : Below w4.heap.size w4 w15 := by
    have s1 := hb5.size
    have s2 := hb57.size
    have s3 := hb8.size
    have s4 := hb8'.size
    exact hb5.trans ((hb57.mono s1).trans ((hb8.mono (by omega)).trans ((hb8'.mono (by omega)).trans (h10_15.mono (by omega)))))
  refine wl_p (fun _ => o_assign rfl) ?_
  refine wl_nil ?_
  refine rk_seq ?_
  refine rk_region ?_
  refine wl_r (o_load_all (t := 25) Try.isAgg25 Try.sizeOf25 rfl hB15' hul) ?_
  refine wl_p (fun _ => o_move rfl) ?_
  refine wl_call rfl (C_Apply (p := q) (old := b) c4 lb.symm w15 hQ15 hlq (hown4.rd.below h4_15) hown4.cap (by omega)) ?_
  rintro _ w16 ⟨A16, c16, rfl, hown16, hb16⟩
  have hw16 := hw15.trans (hb16.mono hw15.size)
  rw [f4] at hown16 ⊢
  refine wl_p (fun _ => o_move rfl) ?_
  refine wl_p (fun _ => o_ext20 rfl) ?_
  refine wl_p (fun _ => o_ext21 rfl) ?_
  refine wl_p (fun _ => o_assign rfl) ?_
  refine wl_p (fun _ => o_assign rfl) ?_
  refine wl_nil ?_
  refine rk_seq ?_
  refine rk_drawo (id := 6) (none) [0, 1, 2, 6, 10, 18, 32, 32, 160, 32, 800, 1312, 3168, 4128, 12288, 16384, 49152, 81920, 147456, 262144, 786432, 1310720, 2359296, 4194304, 4194304, 29360128, 37748736, 100663296, 134217728, 402653184, 671088640, 1207959552, 2684354560, 4294967296, 4294967296, 30064771072, 38654705664, 73014444032, 141733920768, 343597383680, 549755813888, 1649267441664, 2748779069440, 4947802324992, 10995116277760, 17592186044416, 52776558133248, 87960930222080, 211106232532992, 281474976710656, 844424930131968, 1407374883553280, 2533274790395904, 5629499534213120, 9007199254740992, 9007199254740992, 63050394783186944, 81064793292668928, 216172782113783808, 288230376151711744, 288230376151711744, 2017612633061982208, 2594073385365405696, 4899916394579099648, 18446744073709551615] [0, 1, 3, 7, 15, 31, 63, 63, 191, 63, 959, 1983, 4095, 8191, 16383, 32767, 65535, 131071, 262143, 524287, 1048575, 2097151, 4194303, 8388607, 8388607, 33554431, 67108863, 134217727, 268435455, 536870911, 1073741823, 2147483647, 4294967295, 8589934591, 8589934591, 34359738367, 68719476735, 137438953471, 274877906943, 549755813887, 1099511627775, 2199023255551, 4398046511103, 8796093022207, 17592186044415, 35184372088831, 70368744177663, 140737488355327, 281474976710655, 562949953421311, 1125899906842623, 2251799813685247, 4503599627370495, 9007199254740991, 18014398509481983, 18014398509481983, 72057594037927935, 144115188075855871, 288230376151711743, 576460752303423487, 576460752303423487, 2305843009213693951, 4611686018427387903, 9223372036854775807, 18446744073709551615] 2379099140215805825 1920 [0, 1, 2, 3, 4, 5, 6] [(.l, 0), (.p, 1), (.p, 2), (.p, 3), (.p, 4), (.p, 5), (.s, 6), (.f 127 2379099140215805825 1920, 58)] (by kernel_rfl) (by kernel_rfl) (by kernel_rfl) (by kernel_rfl) (by kernel_rfl) ?_
  dsimp only [inOrder, nthOp]
  refine wl_call rfl (C_lives w16.drew) ?_
  rintro _ w17 ⟨rfl, hb17⟩
  replace hb17 : Below w16.heap.size w16 w17 := (Below.refl w16.heap.size w16).drew.trans hb17
  have hw17 := hw16.trans (hb17.mono hw16.size)
  have h15_17 : Below w15.heap.size w15 w17 := hb16.trans (hb17.mono hb16.size)
  have hB17 := hB15'.under h15_17
  have hQ17 := hQ15.below h15_17
  have h7_10 : Below w7.heap.size w7 w10 := hb8.trans (hb8'.mono hb8.size)
  have h7_17 : Below w7.heap.size w7 w17 := h7_10.trans ((h10_15.mono h7_10.size).trans (h15_17.mono (Nat.le_trans h7_10.size h10_15.size)))
  have hC17 := hB7.under h7_17
  have hP17 := hP7.below h7_17
  have ha17 : RD w17 A2 a := (hown24.rd.below h4_15).below h15_17
  have hx17 : RD w17 A16 a := hown16.rd.below hb17
  refine wl_p (fun _ => o_move rfl) ?_
  refine wl_p (fun _ => o_move rfl) ?_
  refine wl_p (fun _ => o_eq rfl rfl) ?_
  refine wl_p (fun _ => o_pick_t rfl rfl) ?_
  refine wl_p (fun _ => o_move rfl) ?_
  refine wl_know 39 true rfl rfl ?_
  refine wl_know 43 true rfl (by decide) ?_
  refine wl_s (fun _ hk => o_load_all (t := 25) Try.isAgg25 Try.sizeOf25 rfl (hB17.under (below_of_grown_none hk)) hul) ?_
  refine wl_fork2j (m := 127) (L := 2379099140215805825) (C := 1920) (n := 58) (k1 := 7) (k2 := 9) (fun fr w' => ∃ A c A6, fr = [(1, .slice A2 2 c2), (3, .pointer (some ⟨w5.heap.size, 0, none⟩)), (5, .pointer (some ⟨w8.heap.size, 0, none⟩)), (8, .int .i64 2), (9, .slice A16 a.length c16), (10, .int .i64 0), (43, .bool true), (44, .agg us.toArray), (46, .slice A 1 c), (47, .slice A6 1 1)] ∧ RD w' A (([3] : List Int).map nm) ∧ 1 ≤ c ∧ Reads w' 1 A6 1 (([2] : List Int).map (Value.int .i64)) ∧ Below w17.heap.size w17 w') [0, 1, 2, 6, 10, 18, 32, 32, 160, 32, 800, 1312, 3168, 4128, 12288, 16384, 49152, 81920, 147456, 262144, 786432, 1310720, 2359296, 4194304, 4194304, 29360128, 37748736, 100663296, 134217728, 402653184, 671088640, 1207959552, 2684354560, 4294967296, 4294967296, 30064771072, 38654705664, 73014444032, 141733920768, 343597383680, 549755813888, 1649267441664, 2748779069440, 4947802324992, 10995116277760, 17592186044416, 52776558133248, 87960930222080, 211106232532992, 281474976710656, 844424930131968, 1407374883553280, 2533274790395904, 5629499534213120, 9007199254740992, 9007199254740992, 63050394783186944, 81064793292668928, 216172782113783808, 288230376151711744, 288230376151711744, 2017612633061982208, 2594073385365405696, 4899916394579099648, 18446744073709551615] [0, 1, 3, 7, 15, 31, 63, 63, 191, 63, 959, 1983, 4095, 8191, 16383, 32767, 65535, 131071, 262143, 524287, 1048575, 2097151, 4194303, 8388607, 8388607, 33554431, 67108863, 134217727, 268435455, 536870911, 1073741823, 2147483647, 4294967295, 8589934591, 8589934591, 34359738367, 68719476735, 137438953471, 274877906943, 549755813887, 1099511627775, 2199023255551, 4398046511103, 8796093022207, 17592186044415, 35184372088831, 70368744177663, 140737488355327, 281474976710655, 562949953421311, 1125899906842623, 2251799813685247, 4503599627370495, 9007199254740991, 18014398509481983, 18014398509481983, 72057594037927935, 144115188075855871, 288230376151711743, 576460752303423487, 576460752303423487, 2305843009213693951, 4611686018427387903, 9223372036854775807, 18446744073709551615] [7] [9, 7, 8, 10, 11, 12, 13, 14, 15, 16, 17, 18, 19, 20, 21, 22, 23, 24, 25, 26, 27, 28, 29, 30, 31, 32, 33, 34, 35, 36, 37, 38, 39, 40, 41, 42, 43, 44, 45, 46, 47, 48, 49, 50, 51, 52, 53, 54, 55, 56, 57, 58, 59, 60, 61, 62, 63, 64] [10, 11, 12, 13, 14, 15, 16, 17, 18, 19, 20, 21, 22, 23, 24, 25, 26, 27, 28, 29, 30, 31, 32, 33, 34, 35, 36, 37, 38, 39, 40, 41, 42, 43, 44, 45, 46, 47, 48, 49, 50, 51, 52, 53, 54, 55, 56, 57, 58, 59, 60, 61, 62, 63, 64] [(.f 255 2379099140215805825 1920, 57)] [(.c, 7), (.c, 8), (.c, 10), (.p, 11), (.l, 12), (.p, 13), (.p, 14), (.p, 15), (.p, 16), (.p, 17), (.p, 18), (.p, 19), (.p, 20), (.p, 21), (.p, 22), (.p, 23), (.p, 24), (.l, 25), (.p, 26), (.p, 27), (.p, 28), (.l, 29), (.p, 30), (.p, 31), (.p, 32), (.p, 33), (.p, 34), (.p, 35), (.l, 36), (.p, 37), (.p, 38), (.p, 39), (.r, 40), (.l, 41), (.p, 42), (.p, 43), (.p, 44), (.r, 45), (.l, 46), (.p, 47), (.p, 48), (.r, 49), (.l, 50), (.p, 51), (.p, 52), (.p, 53), (.r, 54), (.r, 55), (.l, 56), (.p, 57), (.p, 58), (.r, 59), (.r, 60), (.l, 61), (.p, 62), (.p, 63), (.p, 64)] [(.c, 10), (.p, 11), (.l, 12), (.p, 13), (.p, 14), (.p, 15), (.p, 16), (.p, 17), (.p, 18), (.p, 19), (.p, 20), (.p, 21), (.p, 22), (.p, 23), (.p, 24), (.l, 25), (.p, 26), (.p, 27), (.p, 28), (.l, 29), (.p, 30), (.p, 31), (.p, 32), (.p, 33), (.p, 34), (.p, 35), (.l, 36), (.p, 37), (.p, 38), (.p, 39), (.r, 40), (.l, 41), (.p, 42), (.p, 43), (.p, 44), (.r, 45), (.l, 46), (.p, 47), (.p, 48), (.r, 49), (.l, 50), (.p, 51), (.p, 52), (.p, 53), (.r, 54), (.r, 55), (.l, 56), (.p, 57), (.p, 58), (.r, 59), (.r, 60), (.l, 61), (.p, 62), (.p, 63), (.p, 64)] (by kernel_rfl) (by kernel_rfl) (by kernel_rfl) (by kernel_rfl) (by kernel_rfl) ?_ (fun hj => ?_) (fun hj => ?_) <;> dsimp only [inOrder, nthOp]
  · rintro fr w18 ⟨A, c, A6, rfl, hA, hc, hr6, hb18⟩
    have hw18 := hw17.trans (hb18.mono hw17.size)
    have k18 : Below w17.heap.size w17 w18 := hb18
    refine wl_call rfl (C_names (zs := [2]) 1 rfl w18 hr6 (by simp)) ?_ (hq := .inr fun _ _ h => grown_of_below h.choose_spec.choose_spec.2.2 _)
    rintro _ w19 ⟨A19, c19, rfl, hown19, hb19⟩
    have hw19 := hw18.trans (hb19.mono hw18.size)
    have k19 := k18.trans (hb19.mono k18.size)
    refine wl_p (fun _ => o_build (is := [0, 1, 2]) (xs := [.const (.int .i64 1), .tmp 46, .tmp 48]) rfl (fun w => Try.build_Plan _ _ _ _ _ _ _ _ _ _ rfl rfl rfl w)) ?_
    have hQ19 : PlV w19 q (.agg #[.int .i64 1, .slice A 1 c, .slice A19 1 c19]) := by
      rw [hq]
      exact ⟨A, c, A19, c19, rfl, hA.below hb19, hown19.rd, hc, hown19.cap⟩
    have hlq1 := hlq.1
    have hlq2 := hlq.2
    refine wl_call rfl (C_kPlan (p := q) w19 (hQ17.below k19) hQ19 (by omega) (by omega) (by omega) (by omega)) ?_
    rintro _ w20 ⟨rfl, hb20⟩
    have hw20 := hw19.trans (hb20.mono hw19.size)
    have k20 := k19.trans (hb20.mono k19.size)
    refine wl_p (fun _ => o_pick_t rfl rfl) ?_
    refine wl_p (fun _ => o_move rfl) ?_
    refine wl_know 52 true rfl (decide_eq_true rfl) ?_
    refine wl_p (fun _ => o_move rfl) ?_
    refine wl_p (fun _ => o_eq rfl rfl) ?_
    refine wl_p (fun _ => o_pick_t rfl rfl) ?_
    refine wl_p (fun _ => o_move rfl) ?_
    refine wl_p (fun _ => o_move rfl) ?_
    refine wl_p (fun _ => o_eq rfl rfl) ?_
    refine wl_p (fun _ => o_pick_t rfl rfl) ?_
    refine wl_p (fun _ => o_move rfl) ?_
    refine wl_p (fun _ => o_move rfl) ?_
    refine wl_p (fun _ => o_move rfl) ?_
    refine wl_know 56 true rfl (by decide) ?_
    refine wl_know 60 true rfl (by decide) ?_
    refine wl_call rfl (C_Digests (a := a) (b := a) c16 c2 rfl la.symm w20 (hx17.below k20) (ha17.below k20) (by omega) (by omega)) ?_
    rintro _ w21 ⟨rfl, hb21⟩
    have hw21 := hw20.trans (hb21.mono hw20.size)
    have k21 := k20.trans (hb21.mono k20.size)
    refine wl_p (fun _ => o_pick_t rfl rfl) ?_
    refine wl_p (fun _ => o_move rfl) ?_
    refine wl_know 65 true rfl (decide_eq_true rfl) ?_
    refine wl_p (fun _ => o_build (is := [0]) (xs := [.const (.int .i64 (-1))]) rfl (fun w => Try.build_Planm w)) ?_
    refine wl_call rfl (C_Check (p := ⟨-1, [], []⟩) w21 ⟨none, 0, none, 0, rfl, RD.nil _ _, RD.nil _ _, Nat.le_refl _, Nat.le_refl _⟩ ⟨by simp, by simp⟩) ?_
    rintro _ w22 ⟨rfl, hb22⟩
    have hw22 := hw21.trans (hb22.mono hw21.size)
    have k22 := k21.trans (hb22.mono k21.size)
    refine wl_p (fun _ => o_eq rfl rfl) ?_
    refine wl_p (fun _ => o_pick_t rfl rfl) ?_
    refine wl_p (fun _ => o_move rfl) ?_
    refine wl_p (fun _ => o_move rfl) ?_
    refine wl_p (fun _ => o_move rfl) ?_
    refine wl_know 70 true rfl (by rw [f5]; decide) ?_
    refine wl_p (fun _ => o_build (is := [1, 2]) (xs := [.tmp 71, .tmp 72]) rfl (fun w => Try.build_Plan12 _ _ _ _ _ _ w)) ?_
    refine wl_call rfl (C_Check (p := ⟨0, a, a⟩) w22 ⟨A2, c2, A2, c2, by rw [la], ha17.below k22, ha17.below k22, hown24.cap, hown24.cap⟩ ⟨by simp only; omega, by simp only; omega⟩) ?_
    rintro _ w23 ⟨rfl, hb23⟩
    have hw23 := hw22.trans (hb23.mono hw22.size)
    have k23 := k22.trans (hb23.mono k22.size)
    refine wl_p (fun _ => o_eq rfl rfl) ?_
    refine wl_p (fun _ => o_pick_t rfl rfl) ?_
    refine wl_p (fun _ => o_move rfl) ?_
    refine wl_know 77 true rfl (by rw [f6]; decide) ?_
    refine wl_s (fun _ hk => o_load_all (t := 25) Try.isAgg25 Try.sizeOf25 rfl ((hC17.under k23).under (below_of_grown_none hk)) hvl) ?_
    refine wl_call rfl (C_Depth (p := p) w23 (hP17.below k23) hlp) ?_
    rintro _ w24 ⟨rfl, hb24⟩
    have hw24 := hw23.trans (hb24.mono hw23.size)
    have k24 := k23.trans (hb24.mono k23.size)
    refine wl_p (fun _ => o_eq rfl rfl) ?_
    refine wl_p (fun _ => o_pick_t rfl rfl) ?_
    refine wl_p (fun _ => o_move rfl) ?_
    refine wl_know 82 true rfl (by rw [f7, f8]; decide) ?_
    refine wl_s (fun _ hk => o_load_all (t := 25) Try.isAgg25 Try.sizeOf25 rfl ((hC17.under k24).under (below_of_grown_none hk)) hvl) ?_
    refine wl_call rfl (C_Spares (p := p) 1 w24 (hP17.below k24) hlp) ?_
    rintro _ w25 ⟨rfl, hb25⟩
    have hw25 := hw24.trans (hb25.mono hw24.size)
    have k25 := k24.trans (hb25.mono k24.size)
    refine wl_p (fun _ => o_pick_t rfl rfl) ?_
    refine wl_p (fun _ => o_move rfl) ?_
    refine wl_know 86 true rfl (by rw [f7, f9]; decide) ?_
    refine wl_s (fun _ hk => o_load_all (t := 25) Try.isAgg25 Try.sizeOf25 rfl ((hC17.under k25).under (below_of_grown_none hk)) hvl) ?_
    refine wl_call rfl (C_Spares (p := p) 2 w25 (hP17.below k25) hlp) ?_
    rintro _ w26 ⟨rfl, hb26⟩
    have hw26 := hw25.trans (hb26.mono hw25.size)
    have k26 := k25.trans (hb26.mono k25.size)
    refine wl_p (fun _ => o_not rfl) ?_
    refine wl_p (fun _ => o_pick_t rfl rfl) ?_
    refine wl_p (fun _ => o_move rfl) ?_
    refine wl_know 91 true rfl (by rw [f7, f9]; decide) ?_
    refine wl_s (fun _ hk => o_load_all (t := 25) Try.isAgg25 Try.sizeOf25 rfl ((hC17.under k26).under (below_of_grown_none hk)) hvl) ?_
    refine wl_s (fun _ hk => o_load_all (t := 25) Try.isAgg25 Try.sizeOf25 rfl ((hC17.under k26).under (below_of_grown_none hk)) hvl) ?_
    refine wl_call rfl (C_Same (p := p) (q := p) w26 (hP17.below k26) (hP17.below k26) hlp hlp) ?_
    rintro _ w27 ⟨rfl, hb27⟩
    have hw27 := hw26.trans (hb27.mono hw26.size)
    have k27 := k26.trans (hb27.mono k26.size)
    refine wl_p (fun _ => o_pick_t rfl rfl) ?_
    refine wl_p (fun _ => o_move rfl) ?_
    refine wl_know 96 true rfl (decide_eq_true rfl) ?_
    refine wl_s (fun _ hk => o_load_all (t := 25) Try.isAgg25 Try.sizeOf25 rfl ((hC17.under k27).under (below_of_grown_none hk)) hvl) ?_
    refine wl_s (fun _ hk => o_load_all (t := 25) Try.isAgg25 Try.sizeOf25 rfl ((hB17.under k27).under (below_of_grown_none hk)) hul) ?_
    refine wl_call rfl (C_Same (p := p) (q := q) w27 (hP17.below k27) (hQ17.below k27) hlp hlq) ?_
    rintro _ w28 ⟨rfl, hb28⟩
    have hw28 := hw27.trans (hb28.mono hw27.size)
    have k28 := k27.trans (hb28.mono k27.size)
    refine wl_p (fun _ => o_not rfl) ?_
    refine wl_p (fun _ => o_pick_t rfl rfl) ?_
    refine wl_p (fun _ => o_assign rfl) ?_
    refine wl_nild ?_
    refine ret1 rfl rfl ?_
    exact ⟨congrArg Value.bool (by rw [decide_eq_false f10]; rfl), hw28⟩
  · refine wl_litZ (xs := [.const (.int .i64 3)]) [3] 1 rfl rfl rfl ?_
    intro w18 hr18 hb18 hz18
    refine wl_fork2j (m := 255) (L := 2379099140215805825) (C := 1920) (n := 57) (k1 := 8) (k2 := 9) (fun fr w' => ∃ A c A6, fr = [(1, .slice A2 2 c2), (3, .pointer (some ⟨w5.heap.size, 0, none⟩)), (5, .pointer (some ⟨w8.heap.size, 0, none⟩)), (8, .int .i64 2), (9, .slice A16 a.length c16), (10, .int .i64 0), (43, .bool true), (44, .agg us.toArray), (46, .slice A 1 c), (47, .slice A6 1 1)] ∧ RD w' A (([3] : List Int).map nm) ∧ 1 ≤ c ∧ Reads w' 1 A6 1 (([2] : List Int).map (Value.int .i64)) ∧ Below w17.heap.size w17 w') [0, 1, 2, 6, 10, 18, 32, 32, 160, 32, 800, 1312, 3168, 4128, 12288, 16384, 49152, 81920, 147456, 262144, 786432, 1310720, 2359296, 4194304, 4194304, 29360128, 37748736, 100663296, 134217728, 402653184, 671088640, 1207959552, 2684354560, 4294967296, 4294967296, 30064771072, 38654705664, 73014444032, 141733920768, 343597383680, 549755813888, 1649267441664, 2748779069440, 4947802324992, 10995116277760, 17592186044416, 52776558133248, 87960930222080, 211106232532992, 281474976710656, 844424930131968, 1407374883553280, 2533274790395904, 5629499534213120, 9007199254740992, 9007199254740992, 63050394783186944, 81064793292668928, 216172782113783808, 288230376151711744, 288230376151711744, 2017612633061982208, 2594073385365405696, 4899916394579099648, 18446744073709551615] [0, 1, 3, 7, 15, 31, 63, 63, 191, 63, 959, 1983, 4095, 8191, 16383, 32767, 65535, 131071, 262143, 524287, 1048575, 2097151, 4194303, 8388607, 8388607, 33554431, 67108863, 134217727, 268435455, 536870911, 1073741823, 2147483647, 4294967295, 8589934591, 8589934591, 34359738367, 68719476735, 137438953471, 274877906943, 549755813887, 1099511627775, 2199023255551, 4398046511103, 8796093022207, 17592186044415, 35184372088831, 70368744177663, 140737488355327, 281474976710655, 562949953421311, 1125899906842623, 2251799813685247, 4503599627370495, 9007199254740991, 18014398509481983, 18014398509481983, 72057594037927935, 144115188075855871, 288230376151711743, 576460752303423487, 576460752303423487, 2305843009213693951, 4611686018427387903, 9223372036854775807, 18446744073709551615] [8, 9, 10, 11, 12, 13, 14, 15, 16, 17, 18, 19, 20, 21, 22, 23, 24, 25, 26, 27, 28, 29, 30, 31, 32, 33, 34, 35, 36, 37, 38, 39, 40, 41, 42, 43, 44, 45, 46, 47, 48, 49, 50, 51, 52, 53, 54, 55, 56, 57, 58, 59, 60, 61, 62, 63, 64] [9, 8, 10, 11, 12, 13, 14, 15, 16, 17, 18, 19, 20, 21, 22, 23, 24, 25, 26, 27, 28, 29, 30, 31, 32, 33, 34, 35, 36, 37, 38, 39, 40, 41, 42, 43, 44, 45, 46, 47, 48, 49, 50, 51, 52, 53, 54, 55, 56, 57, 58, 59, 60, 61, 62, 63, 64] [10, 11, 12, 13, 14, 15, 16, 17, 18, 19, 20, 21, 22, 23, 24, 25, 26, 27, 28, 29, 30, 31, 32, 33, 34, 35, 36, 37, 38, 39, 40, 41, 42, 43, 44, 45, 46, 47, 48, 49, 50, 51, 52, 53, 54, 55, 56, 57, 58, 59, 60, 61, 62, 63, 64] [(.c, 9), (.c, 10), (.p, 11), (.l, 12), (.p, 13), (.p, 14), (.p, 15), (.p, 16), (.p, 17), (.p, 18), (.p, 19), (.p, 20), (.p, 21), (.p, 22), (.p, 23), (.p, 24), (.l, 25), (.p, 26), (.p, 27), (.p, 28), (.l, 29), (.p, 30), (.p, 31), (.p, 32), (.p, 33), (.p, 34), (.p, 35), (.l, 36), (.p, 37), (.p, 38), (.p, 39), (.r, 40), (.l, 41), (.p, 42), (.p, 43), (.p, 44), (.r, 45), (.l, 46), (.p, 47), (.p, 48), (.r, 49), (.l, 50), (.p, 51), (.p, 52), (.p, 53), (.r, 54), (.r, 55), (.l, 56), (.p, 57), (.p, 58), (.r, 59), (.r, 60), (.l, 61), (.p, 62), (.p, 63), (.p, 64)] [(.c, 8), (.c, 10), (.p, 11), (.l, 12), (.p, 13), (.p, 14), (.p, 15), (.p, 16), (.p, 17), (.p, 18), (.p, 19), (.p, 20), (.p, 21), (.p, 22), (.p, 23), (.p, 24), (.l, 25), (.p, 26), (.p, 27), (.p, 28), (.l, 29), (.p, 30), (.p, 31), (.p, 32), (.p, 33), (.p, 34), (.p, 35), (.l, 36), (.p, 37), (.p, 38), (.p, 39), (.r, 40), (.l, 41), (.p, 42), (.p, 43), (.p, 44), (.r, 45), (.l, 46), (.p, 47), (.p, 48), (.r, 49), (.l, 50), (.p, 51), (.p, 52), (.p, 53), (.r, 54), (.r, 55), (.l, 56), (.p, 57), (.p, 58), (.r, 59), (.r, 60), (.l, 61), (.p, 62), (.p, 63), (.p, 64)] [(.c, 10), (.p, 11), (.l, 12), (.p, 13), (.p, 14), (.p, 15), (.p, 16), (.p, 17), (.p, 18), (.p, 19), (.p, 20), (.p, 21), (.p, 22), (.p, 23), (.p, 24), (.l, 25), (.p, 26), (.p, 27), (.p, 28), (.l, 29), (.p, 30), (.p, 31), (.p, 32), (.p, 33), (.p, 34), (.p, 35), (.l, 36), (.p, 37), (.p, 38), (.p, 39), (.r, 40), (.l, 41), (.p, 42), (.p, 43), (.p, 44), (.r, 45), (.l, 46), (.p, 47), (.p, 48), (.r, 49), (.l, 50), (.p, 51), (.p, 52), (.p, 53), (.r, 54), (.r, 55), (.l, 56), (.p, 57), (.p, 58), (.r, 59), (.r, 60), (.l, 61), (.p, 62), (.p, 63), (.p, 64)] (by kernel_rfl) (by kernel_rfl) (by kernel_rfl) (by kernel_rfl) (by kernel_rfl) ?_ (fun hj => ?_) (fun hj => ?_) <;> dsimp only [inOrder, nthOp]
    · exact fun fr w' h => hj fr w' h
    · refine wl_call rfl (C_names (zs := [3]) 1 rfl w18 hr18 (by simp)) ?_ (hq := .inr fun _ _ h => grown_of_below h.choose_spec.choose_spec.2.2 _)
      rintro _ w19 ⟨A19, c19, rfl, hown19, hb19⟩
      have hb19' := hb18.trans (hb19.mono hb18.size)
      refine wl_litZ (xs := [.const (.int .i64 2)]) [2] 1 rfl rfl rfl ?_
      intro w20 hr20 hb20 hz20
      exact wl_to hj (by repeat' constructor) ⟨A19, c19, _, rfl, hown19.rd.below hb20, hown19.cap, hr20, hb19'.trans (hb20.mono hb19'.size)⟩
    · refine wl_litZ (xs := [.const (.int .i64 2)]) [2] 1 rfl rfl rfl ?_
      intro w19 hr19 hb19 hz19
      have hb19' := hb18.trans (hb19.mono hb18.size)
      refine wl_call rfl (C_names (zs := [3]) 1 rfl w19 (hr18.below hb19) (by simp)) ?_ (hq := .inr fun _ _ h => grown_of_below h.choose_spec.choose_spec.2.2 _)
      rintro _ w20 ⟨A20, c20, rfl, hown20, hb20⟩
      exact wl_to hj (by repeat' constructor) ⟨A20, c20, _, rfl, hown20.rd, hown20.cap, hr19.below hb20, hb19'.trans (hb20.mono hb19'.size)⟩
  · refine wl_litZ (xs := [.const (.int .i64 2)]) [2] 1 rfl rfl rfl ?_
    intro w18 hr18 hb18 hz18
    refine wl_litZ (xs := [.const (.int .i64 3)]) [3] 1 rfl rfl rfl ?_
    intro w19 hr19 hb19 hz19
    have hb19' := hb18.trans (hb19.mono hb18.size)
    refine wl_call rfl (C_names (zs := [3]) 1 rfl w19 hr19 (by simp)) ?_ (hq := .inr fun _ _ h => grown_of_below h.choose_spec.choose_spec.2.2 _)
    rintro _ w20 ⟨A20, c20, rfl, hown20, hb20⟩
    exact wl_to hj (by repeat' constructor) ⟨A20, c20, _, rfl, hown20.rd, hown20.cap, (hr18.below hb19).below hb20, hb19'.trans (hb20.mono hb19'.size)⟩
end Go.Proofs.Ytbncaabcddoicaa
