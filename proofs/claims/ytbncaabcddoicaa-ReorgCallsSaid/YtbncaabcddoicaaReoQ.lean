/-
  The walk of ReorgLeast.
-/
import Derived.Test.YtbncaabcddoicaaReoN
namespace Go.Proofs.Ytbncaabcddoicaa
open Go.RowKit

theorem C_Names' {A : Option Addr} {L : List Dg} {k c : Nat} (w : World) (hr : RD w A L) (hk : k = L.length) (hL : L.length ≤ 4000000) :
    CallsR Try.prog 13 [.slice A k c] w fun v w' => ∃ A' c', v = .slice A' L.length c' ∧ OwnD w' w.heap.size A' c' L ∧ Below w.heap.size w w' := C_Names c hk w hr hL

set_option maxHeartbeats 1000000 in
theorem C_ReorgLeast (w : World) (A : Option Addr) (c : Nat) (xs : List Int) (hr0 : Reads w 1 A xs.length (xs.map (Value.int .i64))) (_hc0 : xs.length ≤ c) (_hm0 : c ≤ maxLen) (hz0 : ∀ n ∈ xs, (Lit.int .i64 n).wf = true)
    (A1 : Option Addr) (c1 : Nat) (ys : List Int) (hr1 : Reads w 1 A1 ys.length (ys.map (Value.int .i64))) (_hc1 : ys.length ≤ c1) (_hm1 : c1 ≤ maxLen) (hz1 : ∀ n ∈ ys, (Lit.int .i64 n).wf = true)
    (v : Value) (p : Pl) (hp : PlV w p v ∧ (Lit.int .i64 p.keep).wf = true) :
    CallsR Try.prog 3 [.slice A xs.length c, .slice A1 ys.length c1, v] w fun v w' => v = .bool true ∧ Below w.heap.size w w' := by
  obtain ⟨hp, wk⟩ := hp
  obtain ⟨AL, cL, AM, cM, rfl, hL, hM, hcL, hcM⟩ := hp
  obtain ⟨k, L, M⟩ := p
  simp only at *
  have hrx : RZ w A xs := hr0
  have hry : RZ w A1 ys := hr1
  refine callsR Try.func3 rfl rfl (by kernel_rfl) rfl ?_
  have hw := Below.refl w.heap.size w
  refine rk_seq ?_
  refine rk_region ?_
  refine wl_boxg [_, _, _] rfl (by rfl) ?_
  rintro g5 w5 f5 b5 i5 i5_1
  have s5 := b5.size
  replace hw := hw.trans (b5.mono hw.size)
  refine wl_p (fun _ => o_assign rfl) ?_
  refine wl_nil ?_
  refine rk_seq ?_
  refine rk_seq ?_
  refine rk_region ?_
  refine wl_call rfl (C_lives _) ?_
  rintro v15 w15 ⟨rfl, b15⟩
  have s15 := b15.size
  replace hw := hw.trans (b15.mono hw.size)
  replace f5 := f5.u b15
  refine wl_p (fun _ => o_not rfl) ?_
  refine wl_nil ?_
  refine rk_false rfl ?_
  refine rk_skip ?_
  refine rk_seq ?_
  refine rk_seq ?_
  refine rk_region ?_
  refine wl_p (fun _ => o_move rfl) ?_
  refine wl_p (fun _ => o_len (t := 22) Try.underlying22 rfl) ?_
  refine wl_p (fun _ => o_gt rfl rfl) ?_
  refine wl_p (fun _ => o_move rfl) ?_
  refine wl_bool 20 rfl (fun h20 => ?_) (fun h20 => ?_) <;> try simp only [decide_eq_true_eq, decide_eq_false_iff_not, Bool.not_eq_true', Bool.not_eq_false', Bool.and_eq_true, Bool.and_eq_false_iff, Bool.or_eq_true, Bool.or_eq_false_iff] at h20
  · refine wl_off ?_
    refine wl_off ?_
    refine wl_off ?_
    refine wl_p (fun _ => o_pick_t rfl rfl) ?_
    refine wl_p (fun _ => o_move rfl) ?_
    refine wl_off ?_
    refine wl_off ?_
    refine wl_off ?_
    refine wl_p (fun _ => o_pick_t rfl rfl) ?_
    refine wl_nil ?_
    refine rk_true rfl ?_
    refine rk_seq ?_
    refine rk_region ?_
    refine wl_p (fun _ => o_assign rfl) ?_
    refine wl_nil ?_
    refine ret1 rfl rfl ?_
    exact ⟨rfl, hw⟩
  refine wl_p (fun _ => o_move rfl) ?_
  refine wl_p (fun _ => o_len (t := 22) Try.underlying22 rfl) ?_
  refine wl_p (fun _ => o_gt rfl rfl) ?_
  refine wl_p (fun _ => o_pick_f rfl rfl) ?_
  refine wl_p (fun _ => o_move rfl) ?_
  refine wl_bool 25 rfl (fun h25 => ?_) (fun h25 => ?_) <;> try simp only [decide_eq_true_eq, decide_eq_false_iff_not, Bool.not_eq_true', Bool.not_eq_false', Bool.and_eq_true, Bool.and_eq_false_iff, Bool.or_eq_true, Bool.or_eq_false_iff] at h25
  · refine wl_off ?_
    refine wl_off ?_
    refine wl_off ?_
    refine wl_p (fun _ => o_pick_t rfl rfl) ?_
    refine wl_nil ?_
    refine rk_true rfl ?_
    refine rk_seq ?_
    refine rk_region ?_
    refine wl_p (fun _ => o_assign rfl) ?_
    refine wl_nil ?_
    refine ret1 rfl rfl ?_
    exact ⟨rfl, hw⟩
  refine wl_r (o_loadag Try.isAgg25 Try.sizeOf25 rfl f5 (by rfl)) ?_
  refine wl_call rfl (C_light _ (PlV.mk_ (hL.u hw) (hM.u hw) rfl rfl (by omega) (by omega))) ?_
  rintro v27 w27 ⟨rfl, b27⟩
  dsimp only
  have s27 := b27.size
  replace hw := hw.trans (b27.mono hw.size)
  replace f5 := f5.u b27
  refine wl_p (fun _ => o_not rfl) ?_
  refine wl_p (fun _ => o_pick_f rfl rfl) ?_
  refine wl_nil ?_
  refine rk_cond rfl (fun h29 => ?_) (fun h29 => ?_) <;> try simp only [decide_eq_true_eq, decide_eq_false_iff_not, Bool.not_eq_true', Bool.not_eq_false', Bool.and_eq_true, Bool.and_eq_false_iff, Bool.or_eq_true, Bool.or_eq_false_iff] at h29
  · refine rk_seq ?_
    refine rk_region ?_
    refine wl_p (fun _ => o_assign rfl) ?_
    refine wl_nil ?_
    refine ret1 rfl rfl ?_
    exact ⟨rfl, hw⟩
  have hla := lonce_len xs
  have hlb := lonce_len ys
  obtain ⟨a, ea⟩ : ∃ a, (lonce xs).map nm = a := ⟨_, rfl⟩
  obtain ⟨b, eb⟩ : ∃ b, (lonce ys).map nm = b := ⟨_, rfl⟩
  have ua : uniq a = true := by rw [← ea]; exact once_uniq xs
  have ub : uniq b = true := by rw [← eb]; exact once_uniq ys
  have la : a.length ≤ 40 := by rw [← ea, List.length_map]; omega
  have lb : b.length ≤ 40 := by rw [← eb, List.length_map]; omega
  have pab := from_eq ua ub
  have bab := from_ok ua ub
  obtain ⟨k1, k2⟩ := common_le a b
  refine rk_skip ?_
  refine rk_seq ?_
  refine rk_region ?_
  refine wl_p (fun _ => o_move rfl) ?_
  refine wl_call rfl (C_once (c) _ (hrx.u hw) rfl (by omega) (by omega)) ?_
  rintro v31 w31 ⟨A31, ⟨c31, ⟨rfl, ⟨f31, b31⟩⟩⟩⟩
  have qf31 := f31.cap
  have s31 := b31.size
  replace hw := hw.trans (b31.mono hw.size)
  replace f5 := f5.u b31
  refine wl_call rfl (C_names' _ f31.to_RZ ea rfl (by omega)) ?_
  rintro v32 w32 ⟨A32, ⟨c32, ⟨rfl, ⟨f32, b32⟩⟩⟩⟩
  replace f32 := f32.h_
  have qf32 := f32.cap
  have s32 := b32.size
  replace hw := hw.trans (b32.mono hw.size)
  replace f5 := f5.u b32
  replace f31 := f31.u b32
  refine wl_p (fun _ => o_move rfl) ?_
  refine wl_call rfl (C_once (c1) _ (hry.u hw) rfl (by omega) (by omega)) ?_
  rintro v34 w34 ⟨A34, ⟨c34, ⟨rfl, ⟨f34, b34⟩⟩⟩⟩
  have qf34 := f34.cap
  have s34 := b34.size
  replace hw := hw.trans (b34.mono hw.size)
  replace f31 := f31.u b34
  replace f5 := f5.u b34
  replace f32 := f32.u b34
  refine wl_call rfl (C_names' _ f34.to_RZ eb rfl (by omega)) ?_
  rintro v35 w35 ⟨A35, ⟨c35, ⟨rfl, ⟨f35, b35⟩⟩⟩⟩
  replace f35 := f35.h_
  have qf35 := f35.cap
  have s35 := b35.size
  replace hw := hw.trans (b35.mono hw.size)
  replace f32 := f32.u b35
  replace f5 := f5.u b35
  replace f31 := f31.u b35
  replace f34 := f34.u b35
  refine wl_p (fun _ => o_assign rfl) ?_
  refine wl_p (fun _ => o_assign rfl) ?_
  refine wl_nil ?_
  refine rk_seq ?_
  refine rk_region ?_
  refine wl_p (fun _ => o_move rfl) ?_
  refine wl_call rfl (C_Names' _ f32.to_RD rfl (by omega)) ?_
  rintro v38 w38 ⟨A38, ⟨c38, ⟨rfl, ⟨f38, b38⟩⟩⟩⟩
  replace f38 := f38.h_
  have qf38 := f38.cap
  have s38 := b38.size
  replace hw := hw.trans (b38.mono hw.size)
  replace f34 := f34.u b38
  replace f31 := f31.u b38
  replace f5 := f5.u b38
  replace f32 := f32.u b38
  replace f35 := f35.u b38
  refine wl_p (fun _ => o_move rfl) ?_
  refine wl_call rfl (C_Names' _ f35.to_RD rfl (by omega)) ?_
  rintro v40 w40 ⟨A40, ⟨c40, ⟨rfl, ⟨f40, b40⟩⟩⟩⟩
  replace f40 := f40.h_
  have qf40 := f40.cap
  have s40 := b40.size
  replace hw := hw.trans (b40.mono hw.size)
  replace f35 := f35.u b40
  replace f32 := f32.u b40
  replace f5 := f5.u b40
  replace f31 := f31.u b40
  replace f34 := f34.u b40
  replace f38 := f38.u b40
  refine wl_call rfl (C_From' _ f38.to_RD f40.to_RD pab rfl rfl (by omega) (by omega) (by omega) (by omega)) ?_
  rintro v41 w41 ⟨u41, ⟨rfl, ⟨⟨A41, ⟨c41, ⟨A41_1, ⟨c41_1, ⟨rfl, ⟨f41, f41_1⟩⟩⟩⟩⟩⟩, b41⟩⟩⟩
  dsimp only at f41
  dsimp only at f41_1
  dsimp only
  replace f41 := f41.h_
  have qf41 := f41.cap
  replace f41_1 := f41_1.h_
  have qf41_1 := f41_1.cap
  have s41 := b41.size
  replace hw := hw.trans (b41.mono hw.size)
  replace f38 := f38.u b41
  replace f34 := f34.u b41
  replace f31 := f31.u b41
  replace f5 := f5.u b41
  replace f32 := f32.u b41
  replace f35 := f35.u b41
  replace f40 := f40.u b41
  refine wl_p (fun _ => o_move rfl) ?_
  refine wl_p (fun _ => o_ext20 rfl) ?_
  refine wl_p (fun _ => o_ext21 rfl) ?_
  refine wl_allocg [_, _, _] Try.zeroValue25 (by rfl) ?_
  rintro g9 w9 f9 b9 i9 i9_1
  have s9 := b9.size
  replace hw := hw.trans (b9.mono hw.size)
  replace f40 := f40.u b9
  replace f35 := f35.u b9
  replace f32 := f32.u b9
  replace f5 := f5.u b9
  replace f31 := f31.u b9
  replace f34 := f34.u b9
  replace f38 := f38.u b9
  replace f41_1 := f41_1.u b9
  replace f41 := f41.u b9
  refine wl_storega Try.sizeOf25 rfl rfl (by rfl) (oneCell_of (by rfl)) f9 (by rfl) ?_
  rintro w_1 f g e
  have s := g.size
  replace hw := hw.trans (below_of_grownBy g.g hw.size (by omega))
  replace f41 := f41.k g.g (ap_some (by omega))
  replace f41_1 := f41_1.k g.g (ap_some (by omega))
  replace f38 := f38.k g.g (ap_some (by omega))
  replace f34 := f34.k g.g (ap_some (by omega))
  replace f31 := f31.k g.g (ap_some (by omega))
  replace f5 := f5.k g.g (ap_some (by omega))
  replace f32 := f32.k g.g (ap_some (by omega))
  replace f35 := f35.k g.g (ap_some (by omega))
  replace f40 := f40.k g.g (ap_some (by omega))
  clear f9
  refine wl_p (fun _ => o_assign rfl) ?_
  refine wl_nil ?_
  refine rk_seq ?_
  refine rk_seq ?_
  refine rk_drawo (id := 7) (none) [0, 1, 2, 4, 12, 20, 36, 68, 128, 384, 128, 1152, 2688, 4224, 8320, 16384, 49152, 16384, 147456, 344064, 540672, 1064960, 2097152, 2097152, 10485760, 23068672, 35651584, 2097152, 136314880, 337641472, 2097152, 1612709888, 2149580800, 4297064448, 10737418240, 17179869184, 17179869184, 85899345920, 188978561024, 292057776128, 17179869184, 1116691496960, 2765958938624, 17179869184, 13211319402496, 17609365913600, 35201551958016] [0, 1, 3, 7, 15, 31, 63, 127, 255, 511, 255, 1279, 4095, 8191, 16383, 32767, 65535, 32767, 163839, 524287, 1048575, 2097151, 4194303, 4194303, 12582911, 33554431, 67108863, 4194303, 138412031, 536870911, 4194303, 2147483647, 4294967295, 8589934591, 17179869183, 34359738367, 34359738367, 103079215103, 274877906943, 549755813887, 34359738367, 1133871366143, 4398046511103, 34359738367, 17592186044415, 35184372088831, 70368744177663] 22542739832832 549822922752 [0, 1, 2, 3, 4, 5, 6, 7, 8, 9, 10, 11, 12, 13, 14, 15, 16, 17, 18, 19, 20, 21, 22, 23, 24, 25, 27, 28, 30, 26, 29, 31, 32, 33, 34, 35, 36, 37, 38, 40, 41, 43, 39, 42, 44, 45, 46] [(.p, 0), (.p, 1), (.p, 2), (.p, 3), (.r, 4), (.p, 5), (.p, 6), (.p, 7), (.p, 8), (.r, 9), (.p, 10), (.p, 11), (.p, 12), (.p, 13), (.p, 14), (.p, 15), (.r, 16), (.p, 17), (.p, 18), (.p, 19), (.p, 20), (.p, 21), (.p, 22), (.p, 23), (.r, 24), (.p, 25), (.p, 27), (.s, 28), (.p, 30), (.c, 26), (.l, 29), (.l, 31), (.p, 32), (.p, 33), (.p, 34), (.p, 35), (.p, 36), (.r, 37), (.p, 38), (.p, 40), (.s, 41), (.p, 43), (.c, 39), (.l, 42), (.l, 44), (.p, 45), (.p, 46)] (by kernel_rfl) (by kernel_rfl) (by kernel_rfl) (by kernel_rfl) (by kernel_rfl) ?_
  dsimp only [inOrder, nthOp]
  replace hw := hw.drew
  replace f40 := f40.d
  replace f35 := f35.d
  replace f32 := f32.d
  replace f5 := f5.d
  replace f31 := f31.d
  replace f34 := f34.d
  replace f38 := f38.d
  replace f41_1 := f41_1.d
  replace f41 := f41.d
  replace f := f.d
  refine wl_p (fun _ => o_move rfl) ?_
  refine wl_p (fun _ => o_ne rfl rfl) ?_
  refine wl_p (fun _ => o_move rfl) ?_
  refine wl_p (fun _ => o_faddr (s := 25) (i := 0) (off := 0) Try.underlying25 rfl Try.sizeOf3 rfl rfl rfl) ?_
  refine wl_r (o_loadbg Try.isAgg3 rfl f (by rfl)) ?_
  refine wl_p (fun _ => o_lt rfl rfl) ?_
  refine wl_p (fun _ => o_pick_f rfl rfl) ?_
  refine wl_p (fun _ => o_move rfl) ?_
  refine wl_p (fun _ => o_faddr (s := 25) (i := 0) (off := 0) Try.underlying25 rfl Try.sizeOf3 rfl rfl rfl) ?_
  refine wl_r (o_loadbg Try.isAgg3 rfl f (by rfl)) ?_
  refine wl_p (fun _ => o_move rfl) ?_
  refine wl_p (fun _ => o_len (t := 23) Try.underlying23 rfl) ?_
  refine wl_p (fun _ => o_gt rfl rfl) ?_
  refine wl_p (fun _ => o_pick_f rfl rfl) ?_
  refine wl_p (fun _ => o_move rfl) ?_
  refine wl_know 58 false rfl (decide_eq_false (by omega)) ?_
  refine wl_p (fun _ => o_faddr (s := 25) (i := 0) (off := 0) Try.underlying25 rfl Try.sizeOf3 rfl rfl rfl) ?_
  refine wl_r (o_loadbg Try.isAgg3 rfl f (by rfl)) ?_
  refine wl_p (fun _ => o_move rfl) ?_
  refine wl_p (fun _ => o_len (t := 23) Try.underlying23 rfl) ?_
  refine wl_p (fun _ => o_gt rfl rfl) ?_
  refine wl_p (fun _ => o_pick_f rfl rfl) ?_
  refine wl_p (fun _ => o_move rfl) ?_
  refine wl_know 65 false rfl (decide_eq_false (by omega)) ?_
  refine wl_p (fun _ => o_move rfl) ?_
  refine wl_p (fun _ => o_faddr (s := 25) (i := 0) (off := 0) Try.underlying25 rfl Try.sizeOf3 rfl rfl rfl) ?_
  refine wl_r (o_loadbg Try.isAgg3 rfl f (by rfl)) ?_
  refine wl_slhiD (common a b) rfl rfl f32.to_RD rfl rfl (by omega) (by omega) ?_
  rintro f69
  refine wl_p (fun _ => o_faddr (s := 25) (i := 1) (off := 1) Try.underlying25 rfl Try.sizeOf23 rfl rfl rfl) ?_
  refine wl_s (fun _ hk => (o_loadbg Try.isAgg23 rfl (f.u (below_of_grown_none hk)) (by rfl))) ?_
  refine wl_p (fun _ => o_move rfl) ?_
  refine wl_call rfl (C_Names' _ f69 (by simp; omega) (by simp; omega)) ?_ (hq := .inr fun _ _ h => grown_of_below h.choose_spec.choose_spec.2.2 _)
  rintro v70 w70 ⟨A70, ⟨c70, ⟨rfl, ⟨f70, b70⟩⟩⟩⟩
  simp only [drew_size] at f70
  simp only [drew_size] at b70
  replace f70 := f70.h_
  have qf70 := f70.cap
  have s70 := b70.size
  simp only [drew_size] at s70
  replace hw := hw.trans (b70.mono hw.size)
  replace f69 := f69.u b70
  replace f := f.u b70
  replace f41 := f41.u b70
  replace f41_1 := f41_1.u b70
  replace f38 := f38.u b70
  replace f34 := f34.u b70
  replace f31 := f31.u b70
  replace f5 := f5.u b70
  replace f32 := f32.u b70
  replace f35 := f35.u b70
  replace f40 := f40.u b70
  refine wl_appDH rfl f70 rfl rfl f41.to_RD rfl (by simp; omega) (by omega) ?_
  rintro A73 c73 w73 f73 g73 b73 i73
  have qf73 := f73.cap
  have s73 := g73.size
  replace hw := hw.trans (b73.mono (by omega))
  replace f40 := f40.k g73.g (f70.ap (by omega))
  replace f35 := f35.k g73.g (f70.ap (by omega))
  replace f32 := f32.k g73.g (f70.ap (by omega))
  replace f5 := f5.y g73 (by decide)
  replace f31 := f31.y g73 (by decide)
  replace f34 := f34.y g73 (by decide)
  replace f38 := f38.k g73.g (f70.ap (by omega))
  replace f41_1 := f41_1.k g73.g (f70.ap (by omega))
  replace f41 := f41.k g73.g (f70.ap (by omega))
  replace f := f.y g73 (by decide)
  clear f69
  clear f70
  refine wl_call rfl (C_Digests (c73) (c32) rfl rfl _ f73.to_RD f32.to_RD (by simp; omega) (by omega)) ?_
  rintro v75 w75 ⟨rfl, b75⟩
  have s75 := b75.size
  replace hw := hw.trans (b75.mono hw.size)
  replace f := f.u b75
  replace f41 := f41.u b75
  replace f41_1 := f41_1.u b75
  replace f38 := f38.u b75
  replace f34 := f34.u b75
  replace f31 := f31.u b75
  replace f5 := f5.u b75
  replace f32 := f32.u b75
  replace f35 := f35.u b75
  replace f40 := f40.u b75
  replace f73 := f73.u b75
  refine wl_p (fun _ => o_not rfl) ?_
  refine wl_p (fun _ => o_pick_f rfl rfl) ?_
  refine wl_p (fun _ => o_move rfl) ?_
  refine wl_know 78 false rfl (by simp) ?_
  refine wl_p (fun _ => o_move rfl) ?_
  refine wl_p (fun _ => o_faddr (s := 25) (i := 0) (off := 0) Try.underlying25 rfl Try.sizeOf3 rfl rfl rfl) ?_
  refine wl_r (o_loadbg Try.isAgg3 rfl f (by rfl)) ?_
  refine wl_slhiD (common a b) rfl rfl f35.to_RD rfl rfl (by omega) (by omega) ?_
  rintro f82
  refine wl_p (fun _ => o_faddr (s := 25) (i := 2) (off := 2) Try.underlying25 rfl Try.sizeOf23 rfl rfl rfl) ?_
  refine wl_s (fun _ hk => (o_loadbg Try.isAgg23 rfl (f.u (below_of_grown_none hk)) (by rfl))) ?_
  refine wl_p (fun _ => o_move rfl) ?_
  refine wl_call rfl (C_Names' _ f82 (by simp; omega) (by simp; omega)) ?_ (hq := .inr fun _ _ h => grown_of_below h.choose_spec.choose_spec.2.2 _)
  rintro v83 w83 ⟨A83, ⟨c83, ⟨rfl, ⟨f83, b83⟩⟩⟩⟩
  replace f83 := f83.h_
  have qf83 := f83.cap
  have s83 := b83.size
  replace hw := hw.trans (b83.mono hw.size)
  replace f82 := f82.u b83
  replace f73 := f73.u b83
  replace f40 := f40.u b83
  replace f35 := f35.u b83
  replace f32 := f32.u b83
  replace f5 := f5.u b83
  replace f31 := f31.u b83
  replace f34 := f34.u b83
  replace f38 := f38.u b83
  replace f41_1 := f41_1.u b83
  replace f41 := f41.u b83
  replace f := f.u b83
  refine wl_appDH rfl f83 rfl rfl f41_1.to_RD rfl (by simp; omega) (by omega) ?_
  rintro A86 c86 w86 f86 g86 b86 i86
  have qf86 := f86.cap
  have s86 := g86.size
  replace hw := hw.trans (b86.mono (by omega))
  replace f := f.y g86 (by decide)
  replace f41 := f41.k g86.g (f83.ap (by omega))
  replace f41_1 := f41_1.k g86.g (f83.ap (by omega))
  replace f38 := f38.k g86.g (f83.ap (by omega))
  replace f34 := f34.y g86 (by decide)
  replace f31 := f31.y g86 (by decide)
  replace f5 := f5.y g86 (by decide)
  replace f32 := f32.k g86.g (f83.ap (by omega))
  replace f35 := f35.k g86.g (f83.ap (by omega))
  replace f40 := f40.k g86.g (f83.ap (by omega))
  replace f73 := f73.k g86.g (f83.ap (by omega))
  clear f82
  clear f83
  refine wl_call rfl (C_Digests (c86) (c35) rfl rfl _ f86.to_RD f35.to_RD (by simp; omega) (by omega)) ?_
  rintro v88 w88 ⟨rfl, b88⟩
  have s88 := b88.size
  replace hw := hw.trans (b88.mono hw.size)
  replace f73 := f73.u b88
  replace f40 := f40.u b88
  replace f35 := f35.u b88
  replace f32 := f32.u b88
  replace f5 := f5.u b88
  replace f31 := f31.u b88
  replace f34 := f34.u b88
  replace f38 := f38.u b88
  replace f41_1 := f41_1.u b88
  replace f41 := f41.u b88
  replace f := f.u b88
  replace f86 := f86.u b88
  refine wl_p (fun _ => o_not rfl) ?_
  refine wl_p (fun _ => o_pick_f rfl rfl) ?_
  refine wl_nild ?_
  refine rk_cond rfl (fun h90 => by simp at h90) (fun h90 => ?_)
  refine rk_skip ?_
  refine rk_seq ?_
  refine rk_region ?_
  refine wl_r (o_loadag Try.isAgg25 Try.sizeOf25 rfl f5 (by rfl)) ?_
  refine wl_call rfl (C_lplan _ (PlV.mk_ (hL.u hw) (hM.u hw) rfl rfl (by omega) (by omega)) (by simp; omega) (by simp; omega)) ?_
  rintro v93 w93 ⟨⟨A93, ⟨c93, ⟨A93_1, ⟨c93_1, ⟨rfl, ⟨f93, f93_1⟩⟩⟩⟩⟩⟩, b93⟩
  dsimp only at f93
  dsimp only at f93_1
  dsimp only
  replace f93 := f93.h_
  have qf93 := f93.cap
  replace f93_1 := f93_1.h_
  have qf93_1 := f93_1.cap
  have s93 := b93.size
  replace hw := hw.trans (b93.mono hw.size)
  replace f86 := f86.u b93
  replace f := f.u b93
  replace f41 := f41.u b93
  replace f41_1 := f41_1.u b93
  replace f38 := f38.u b93
  replace f34 := f34.u b93
  replace f31 := f31.u b93
  replace f5 := f5.u b93
  replace f32 := f32.u b93
  replace f35 := f35.u b93
  replace f40 := f40.u b93
  replace f73 := f73.u b93
  refine wl_p (fun _ => o_move rfl) ?_
  refine wl_call rfl (C_Names' _ f32.to_RD rfl (by omega)) ?_
  rintro v95 w95 ⟨A95, ⟨c95, ⟨rfl, ⟨f95, b95⟩⟩⟩⟩
  replace f95 := f95.h_
  have qf95 := f95.cap
  have s95 := b95.size
  replace hw := hw.trans (b95.mono hw.size)
  replace f73 := f73.u b95
  replace f40 := f40.u b95
  replace f35 := f35.u b95
  replace f32 := f32.u b95
  replace f5 := f5.u b95
  replace f31 := f31.u b95
  replace f34 := f34.u b95
  replace f38 := f38.u b95
  replace f41_1 := f41_1.u b95
  replace f41 := f41.u b95
  replace f := f.u b95
  replace f86 := f86.u b95
  replace f93_1 := f93_1.u b95
  replace f93 := f93.u b95
  refine wl_call rfl (C_Apply' _ (PlV.mk_ f93.to_RD f93_1.to_RD rfl rfl (by omega) (by omega)) f95.to_RD (by rfl) rfl ⟨by simp only; omega, by simp only; omega⟩ (by omega) (by omega)) ?_
  rintro v96 w96 ⟨A96, ⟨c96, ⟨rfl, ⟨f96, b96⟩⟩⟩⟩
  replace f96 := f96.h_
  have qf96 := f96.cap
  have s96 := b96.size
  replace hw := hw.trans (b96.mono hw.size)
  replace f93 := f93.u b96
  replace f93_1 := f93_1.u b96
  replace f86 := f86.u b96
  replace f := f.u b96
  replace f41 := f41.u b96
  replace f41_1 := f41_1.u b96
  replace f38 := f38.u b96
  replace f34 := f34.u b96
  replace f31 := f31.u b96
  replace f5 := f5.u b96
  replace f32 := f32.u b96
  replace f35 := f35.u b96
  replace f40 := f40.u b96
  replace f73 := f73.u b96
  replace f95 := f95.u b96
  refine wl_p (fun _ => o_move rfl) ?_
  refine wl_p (fun _ => o_ext20 rfl) ?_
  refine wl_p (fun _ => o_ext21 rfl) ?_
  refine wl_p (fun _ => o_assign rfl) ?_
  refine wl_p (fun _ => o_assign rfl) ?_
  refine wl_nil ?_
  refine rk_seq ?_
  refine rk_seq ?_
  refine rk_region ?_
  refine wl_p (fun _ => o_move rfl) ?_
  refine wl_p (fun _ => o_eq rfl rfl) ?_
  refine wl_p (fun _ => o_move rfl) ?_
  have lp := pApply_len ⟨k, L, M⟩ a
  simp only at lp
  refine wl_joinf 10 (fun fb fr w' => fr = [(111, .bool false)] ++ fb.drop 1 ∧ Below w96.heap.size w96 w') ?_ (fun hj => ?_)
  rotate_left
  · refine wl_bool 101 rfl (fun h101 => ?_) (fun h101 => ?_) <;> try simp only [decide_eq_true_eq, decide_eq_false_iff_not, Bool.not_eq_true', Bool.not_eq_false', Bool.and_eq_true, Bool.and_eq_false_iff, Bool.or_eq_true, Bool.or_eq_false_iff] at h101
    · refine wl_p (fun _ => o_move rfl) ?_
      refine wl_p (fun _ => o_move rfl) ?_
      refine wl_call rfl (C_Digests (c96) (c35) rfl rfl _ f96.to_RD f35.to_RD (by omega) (by omega)) ?_
      rintro v104 w104 ⟨rfl, b104⟩
      have s104 := b104.size
      replace hw := hw.trans (b104.mono hw.size)
      replace f95 := f95.u b104
      replace f73 := f73.u b104
      replace f40 := f40.u b104
      replace f35 := f35.u b104
      replace f32 := f32.u b104
      replace f5 := f5.u b104
      replace f31 := f31.u b104
      replace f34 := f34.u b104
      replace f38 := f38.u b104
      replace f41_1 := f41_1.u b104
      replace f41 := f41.u b104
      replace f := f.u b104
      replace f86 := f86.u b104
      replace f93_1 := f93_1.u b104
      replace f93 := f93.u b104
      replace f96 := f96.u b104
      refine wl_p (fun _ => o_pick_t rfl rfl) ?_
      refine wl_p (fun _ => o_move rfl) ?_
      refine wl_bool 106 rfl (fun h106 => ?_) (fun h106 => ?_) <;> try simp only [decide_eq_true_eq, decide_eq_false_iff_not, Bool.not_eq_true', Bool.not_eq_false', Bool.and_eq_true, Bool.and_eq_false_iff, Bool.or_eq_true, Bool.or_eq_false_iff] at h106
      · have e2 : pApply ⟨k, L, M⟩ a = (b, 0) := Prod.ext h106 (by simpa using h101)
        have e3 := from_only e2
        refine wl_r (o_loadag Try.isAgg25 Try.sizeOf25 rfl f5 (by rfl)) ?_
        refine wl_r (o_loadag Try.isAgg25 Try.sizeOf25 rfl f (by rfl)) ?_
        refine wl_call rfl (C_kPlan _ (PlV.mk_ (hL.u hw) (hM.u hw) rfl rfl (by omega) (by omega)) (PlV.mk_ f41.to_RD f41_1.to_RD rfl rfl (by omega) (by omega)) (by simp; omega) (by simp; omega) (by simp; omega) (by simp; omega)) ?_
        rintro v109 w109 ⟨rfl, b109⟩
        have s109 := b109.size
        replace hw := hw.trans (b109.mono hw.size)
        replace f96 := f96.u b109
        replace f93 := f93.u b109
        replace f93_1 := f93_1.u b109
        replace f86 := f86.u b109
        replace f := f.u b109
        replace f41 := f41.u b109
        replace f41_1 := f41_1.u b109
        replace f38 := f38.u b109
        replace f34 := f34.u b109
        replace f31 := f31.u b109
        replace f5 := f5.u b109
        replace f32 := f32.u b109
        replace f35 := f35.u b109
        replace f40 := f40.u b109
        replace f73 := f73.u b109
        replace f95 := f95.u b109
        refine wl_p (fun _ => o_not rfl) ?_
        refine wl_p (fun _ => o_pick_t rfl rfl) ?_
        refine wl_know 111 false rfl (by simp [e3]) ?_
        exact wl_tof hj (Fr.le_of (by kernel_rfl) (by kernel_rfl) (by repeat' constructor)) ⟨rfl, b104.trans (b109.mono (by omega))⟩
      · refine wl_off ?_
        refine wl_off ?_
        refine wl_off ?_
        refine wl_off ?_
        refine wl_p (fun _ => o_pick_f rfl rfl) ?_
        exact wl_tof hj (Fr.le_of (by kernel_rfl) (by kernel_rfl) (by repeat' constructor)) ⟨rfl, b104⟩
    · refine wl_off ?_
      refine wl_off ?_
      refine wl_off ?_
      refine wl_p (fun _ => o_pick_f rfl rfl) ?_
      refine wl_p (fun _ => o_move rfl) ?_
      refine wl_off ?_
      refine wl_off ?_
      refine wl_off ?_
      refine wl_off ?_
      refine wl_p (fun _ => o_pick_f rfl rfl) ?_
      exact wl_tof hj (Fr.le_of (by kernel_rfl) (by kernel_rfl) (by repeat' constructor)) ⟨rfl, Below.refl _ _⟩
  rintro fr w' ⟨rfl, b111⟩
  first | refine rk_frame (by simp only [List.cons_append, List.nil_append, List.drop_succ_cons, List.drop_zero]; rfl) ?_ | refine wl_frame (by simp only [List.cons_append, List.nil_append, List.drop_succ_cons, List.drop_zero]; rfl) ?_
  have sb111 := b111.size
  replace hw := hw.trans (b111.mono hw.size)
  replace f95 := f95.u b111
  replace f73 := f73.u b111
  replace f40 := f40.u b111
  replace f35 := f35.u b111
  replace f32 := f32.u b111
  replace f5 := f5.u b111
  replace f31 := f31.u b111
  replace f34 := f34.u b111
  replace f38 := f38.u b111
  replace f41_1 := f41_1.u b111
  replace f41 := f41.u b111
  replace f := f.u b111
  replace f86 := f86.u b111
  replace f93_1 := f93_1.u b111
  replace f93 := f93.u b111
  replace f96 := f96.u b111
  refine rk_false rfl ?_
  refine rk_skip ?_
  refine rk_seq ?_
  refine rk_seq ?_
  refine rk_region ?_
  refine wl_p (fun _ => o_assign rfl) ?_
  refine wl_nil ?_
  refine rk_block ?_
  refine rk_joinf (fun fb fr w2 => fr = [] ++ fb.drop 1 ∧ Below w'.heap.size w' w2) ?_ (fun ks hj => ?_)
  rotate_left
  · refine rk_loopf (fun fb m fr w2 => ∃ (i : Nat) (v : Int), fr = [(13, .int .i64 v)] ++ fb ∧ v = i ∧ i ≤ common a b ∧ m = common a b - i ∧ Below w'.heap.size w' w2) (n := common a b) (Fr.le_of (by kernel_rfl) (by kernel_rfl) (by repeat' constructor)) ⟨0, _, rfl, rfl, by omega, rfl, Below.refl _ _⟩ ?_
    rintro m fr w2 ⟨i, v, rfl, rfl, hi, rfl, hw1⟩
    first | refine rk_frame (by simp only [List.cons_append, List.nil_append, List.drop_succ_cons, List.drop_zero]; rfl) ?_ | refine wl_frame (by simp only [List.cons_append, List.nil_append, List.drop_succ_cons, List.drop_zero]; rfl) ?_
    have shw1 := hw1.size
    replace hw := hw.trans (hw1.mono hw.size)
    replace f96 := f96.u hw1
    replace f93 := f93.u hw1
    replace f93_1 := f93_1.u hw1
    replace f86 := f86.u hw1
    replace f := f.u hw1
    replace f41 := f41.u hw1
    replace f41_1 := f41_1.u hw1
    replace f38 := f38.u hw1
    replace f34 := f34.u hw1
    replace f31 := f31.u hw1
    replace f5 := f5.u hw1
    replace f32 := f32.u hw1
    replace f35 := f35.u hw1
    replace f40 := f40.u hw1
    replace f73 := f73.u hw1
    replace f95 := f95.u hw1
    refine rk_seq ?_
    refine rk_seq ?_
    refine rk_region ?_
    refine wl_p (fun _ => o_move rfl) ?_
    refine wl_p (fun _ => o_faddr (s := 25) (i := 0) (off := 0) Try.underlying25 rfl Try.sizeOf3 rfl rfl rfl) ?_
    refine wl_r (o_loadbg Try.isAgg3 rfl f (by rfl)) ?_
    refine wl_p (fun _ => o_lt rfl rfl) ?_
    refine wl_nil ?_
    refine rk_if rfl (fun h115 => ?_) (fun h115 => ?_)
    · have hic : i < common a b := by omega
      have eless := from_less hic
      refine rk_skip ?_
      refine rk_seq ?_
      refine rk_block ?_
      refine rk_seq ?_
      refine rk_drawo (id := 15) (none) [0, 0, 0, 6, 8, 0, 0, 96, 144, 273, 0, 2047] [0, 0, 0, 6, 14, 0, 0, 96, 254, 511, 0, 2047] 3344 0 [0, 1, 2, 3, 5, 6, 7] [(.p, 0), (.p, 1), (.p, 2), (.p, 3), (.p, 5), (.p, 6), (.p, 7), (.f 239 3344 0, 5)] (by kernel_rfl) (by kernel_rfl) (by kernel_rfl) (by kernel_rfl) (by kernel_rfl) ?_
      dsimp only [inOrder, nthOp]
      replace hw1 := hw1.drew
      replace hw := hw.drew
      replace f95 := f95.d
      replace f73 := f73.d
      replace f40 := f40.d
      replace f35 := f35.d
      replace f32 := f32.d
      replace f5 := f5.d
      replace f31 := f31.d
      replace f34 := f34.d
      replace f38 := f38.d
      replace f41_1 := f41_1.d
      replace f41 := f41.d
      replace f := f.d
      replace f86 := f86.d
      replace f93_1 := f93_1.d
      replace f93 := f93.d
      replace f96 := f96.d
      refine wl_p (fun _ => o_move rfl) ?_
      refine wl_p (fun _ => o_move rfl) ?_
      refine wl_p (fun _ => o_move rfl) ?_
      refine wl_slloD (i) rfl rfl f32.to_RD rfl rfl (by omega) (by omega) ?_
      rintro A121 f121
      refine wl_p (fun _ => o_move rfl) ?_
      refine wl_p (fun _ => o_move rfl) ?_
      refine wl_slloD (i) rfl rfl f35.to_RD rfl rfl (by omega) (by omega) ?_
      rintro A125 f125
      refine wl_forkf (m := 239) (L := 3344) (C := 0) (n := 5) (k1 := 4) (k2 := 10) (fun fb fr w3 => ∃ A5 c5 A6 c6 lo hi lo2 hi2 g14', fr = [(127, Value.agg #[.int .i64 (i : Int), .slice A5 (a.drop i).length c5, .slice A6 (b.drop i).length c6]), (14, .pointer (some ⟨g14', 0, none⟩))] ++ fb ∧ OwnDH w3 lo hi A5 c5 (a.drop i) ∧ OwnDH w3 lo2 hi2 A6 c6 (b.drop i) ∧ Blk w3 g14' 25 pl0c ∧ w2.heap.size ≤ g14' ∧ Below w2.heap.size w2.drew w3) [0, 0, 0, 6, 8, 0, 0, 96, 144, 273, 0, 2047] [0, 0, 0, 6, 14, 0, 0, 96, 254, 511, 0, 2047] [4] [10, 4, 8, 9, 11] [11] [(.f 255 3344 0, 4)] [(.l, 4), (.l, 8), (.p, 9), (.l, 11)] [(.l, 11)] (by kernel_rfl) (by kernel_rfl) (by kernel_rfl) (by kernel_rfl) (by kernel_rfl) ?_ (fun hj => ?_) (fun hj => ?_) <;> dsimp only [inOrder, nthOp]
      · rintro fr w3 ⟨A5, c5, A6, c6, lo, hi, lo2, hi2, g14', rfl, f15, f15b, f14, i14, b14⟩
        first | refine rk_frame (by simp only [List.cons_append, List.nil_append, List.drop_succ_cons, List.drop_zero]; rfl) ?_ | refine wl_frame (by simp only [List.cons_append, List.nil_append, List.drop_succ_cons, List.drop_zero]; rfl) ?_
        have sb14 := b14.size
        simp only [drew_size] at sb14
        replace hw1 := hw1.trans (b14.mono hw1.size)
        replace hw := hw.trans (b14.mono hw.size)
        replace f125 := f125.u b14
        replace f121 := f121.u b14
        replace f96 := f96.u b14
        replace f93 := f93.u b14
        replace f93_1 := f93_1.u b14
        replace f86 := f86.u b14
        replace f := f.u b14
        replace f41 := f41.u b14
        replace f41_1 := f41_1.u b14
        replace f38 := f38.u b14
        replace f34 := f34.u b14
        replace f31 := f31.u b14
        replace f5 := f5.u b14
        replace f32 := f32.u b14
        replace f35 := f35.u b14
        replace f40 := f40.u b14
        replace f73 := f73.u b14
        replace f95 := f95.u b14
        refine wl_storega Try.sizeOf25 rfl rfl (by rfl) (oneCell_of (by rfl)) f14 (by rfl) ?_
        rintro w_2 f_1 g_1 e_1
        have s_1 := g_1.size
        replace hw1 := hw1.trans (below_of_grownBy g_1.g hw1.size (by omega))
        replace hw := hw.trans (below_of_grownBy g_1.g hw.size (by omega))
        replace f95 := f95.k g_1.g (ap_some (by omega))
        replace f73 := f73.k g_1.g (ap_some (by omega))
        replace f40 := f40.k g_1.g (ap_some (by omega))
        replace f35 := f35.k g_1.g (ap_some (by omega))
        replace f32 := f32.k g_1.g (ap_some (by omega))
        replace f5 := f5.k g_1.g (ap_some (by omega))
        replace f31 := f31.k g_1.g (ap_some (by omega))
        replace f34 := f34.k g_1.g (ap_some (by omega))
        replace f38 := f38.k g_1.g (ap_some (by omega))
        replace f41_1 := f41_1.k g_1.g (ap_some (by omega))
        replace f41 := f41.k g_1.g (ap_some (by omega))
        replace f := f.k g_1.g (ap_some (by omega))
        replace f86 := f86.k g_1.g (ap_some (by omega))
        replace f93_1 := f93_1.k g_1.g (ap_some (by omega))
        replace f93 := f93.k g_1.g (ap_some (by omega))
        replace f96 := f96.k g_1.g (ap_some (by omega))
        clear f121
        clear f125
        clear f14
        replace f15b := f15b.y g_1 (by decide)
        replace f15 := f15.y g_1 (by decide)
        refine wl_nild ?_
        refine rk_seq ?_
        refine rk_region ?_
        refine wl_r (o_loadag Try.isAgg25 Try.sizeOf25 rfl f_1 (by rfl)) ?_
        refine wl_call rfl (C_Check' _ (PlV.mk_ f15.to_RD f15b.to_RD rfl rfl f15.cap f15b.cap) eless ⟨by simp; omega, by simp; omega⟩) ?_
        rintro v129 w129 ⟨rfl, b129⟩
        have s129 := b129.size
        replace hw1 := hw1.trans (b129.mono hw1.size)
        replace hw := hw.trans (b129.mono hw.size)
        replace f15 := f15.u b129
        replace f15b := f15b.u b129
        replace f96 := f96.u b129
        replace f93 := f93.u b129
        replace f93_1 := f93_1.u b129
        replace f86 := f86.u b129
        replace f := f.u b129
        replace f41 := f41.u b129
        replace f41_1 := f41_1.u b129
        replace f38 := f38.u b129
        replace f34 := f34.u b129
        replace f31 := f31.u b129
        replace f5 := f5.u b129
        replace f32 := f32.u b129
        replace f35 := f35.u b129
        replace f40 := f40.u b129
        replace f73 := f73.u b129
        replace f95 := f95.u b129
        replace f_1 := f_1.u b129
        refine wl_p (fun _ => o_ne rfl rfl) ?_
        refine wl_nil ?_
        refine rk_false rfl ?_
        refine rk_skip ?_
        refine rk_blk ?_
        refine rk_region ?_
        refine wl_p (fun _ => o_move rfl) ?_
        refine wl_p (fun _ => o_add rfl rfl (by omega) (by omega)) ?_
        refine wl_p (fun _ => o_assign rfl) ?_
        refine wl_nil ?_
        exact rk_againf (Fr.le_of (by kernel_rfl) (by kernel_rfl) (by repeat' constructor)) ⟨i + 1, (i : Int) + 1, rfl, by omega, by omega, rfl, hw1⟩ (by omega)
      · refine wl_call rfl (C_Names' _ f121 (by simp) (by simp; omega)) ?_
        rintro v122 w122 ⟨A122, ⟨c122, ⟨rfl, ⟨f122, b122⟩⟩⟩⟩
        simp only [drew_size] at f122
        simp only [drew_size] at b122
        replace f122 := f122.h_
        have qf122 := f122.cap
        have s122 := b122.size
        simp only [drew_size] at s122
        replace hw1 := hw1.trans (b122.mono hw1.size)
        replace hw := hw.trans (b122.mono hw.size)
        replace f125 := f125.u b122
        replace f121 := f121.u b122
        replace f96 := f96.u b122
        replace f93 := f93.u b122
        replace f93_1 := f93_1.u b122
        replace f86 := f86.u b122
        replace f := f.u b122
        replace f41 := f41.u b122
        replace f41_1 := f41_1.u b122
        replace f38 := f38.u b122
        replace f34 := f34.u b122
        replace f31 := f31.u b122
        replace f5 := f5.u b122
        replace f32 := f32.u b122
        replace f35 := f35.u b122
        replace f40 := f40.u b122
        replace f73 := f73.u b122
        replace f95 := f95.u b122
        refine wl_fork2j (m := 255) (L := 3344) (C := 0) (n := 4) (k1 := 8) (k2 := 10) _ [0, 0, 0, 6, 8, 0, 0, 96, 144, 273, 0, 2047] [0, 0, 0, 6, 14, 0, 0, 96, 254, 511, 0, 2047] [8, 9, 10, 11] [10, 8, 9, 11] [11] [(.p, 9), (.l, 10), (.l, 11)] [(.l, 8), (.p, 9), (.l, 11)] [(.l, 11)] (by kernel_rfl) (by kernel_rfl) (by kernel_rfl) (by kernel_rfl) (by kernel_rfl) hj (fun hj => ?_) (fun hj => ?_) <;> dsimp only [inOrder, nthOp]
        · refine wl_call rfl (C_Names' _ f125 (by simp) (by simp; omega)) ?_
          rintro v126 w126 ⟨A126, ⟨c126, ⟨rfl, ⟨f126, b126⟩⟩⟩⟩
          replace f126 := f126.h_
          have qf126 := f126.cap
          have s126 := b126.size
          replace hw1 := hw1.trans (b126.mono hw1.size)
          replace hw := hw.trans (b126.mono hw.size)
          replace f95 := f95.u b126
          replace f73 := f73.u b126
          replace f40 := f40.u b126
          replace f35 := f35.u b126
          replace f32 := f32.u b126
          replace f5 := f5.u b126
          replace f31 := f31.u b126
          replace f34 := f34.u b126
          replace f38 := f38.u b126
          replace f41_1 := f41_1.u b126
          replace f41 := f41.u b126
          replace f := f.u b126
          replace f86 := f86.u b126
          replace f93_1 := f93_1.u b126
          replace f93 := f93.u b126
          replace f96 := f96.u b126
          replace f121 := f121.u b126
          replace f125 := f125.u b126
          replace f122 := f122.u b126
          refine wl_p (fun _ => (o_buildg [_, _, _] Try.underlying25 Try.zeroValue25 (by rfl) (by rfl) rfl (by rfl) (by rfl) (fun _ => by kernel_rfl))) ?_
          refine wl_allocg [_, _, _] Try.zeroValue25 (by rfl) ?_
          rintro g14 w14 f14 b14 i14 i14_1
          have s14 := b14.size
          replace hw1 := hw1.trans (b14.mono hw1.size)
          replace hw := hw.trans (b14.mono hw.size)
          replace f122 := f122.u b14
          replace f125 := f125.u b14
          replace f121 := f121.u b14
          replace f96 := f96.u b14
          replace f93 := f93.u b14
          replace f93_1 := f93_1.u b14
          replace f86 := f86.u b14
          replace f := f.u b14
          replace f41 := f41.u b14
          replace f41_1 := f41_1.u b14
          replace f38 := f38.u b14
          replace f34 := f34.u b14
          replace f31 := f31.u b14
          replace f5 := f5.u b14
          replace f32 := f32.u b14
          replace f35 := f35.u b14
          replace f40 := f40.u b14
          replace f73 := f73.u b14
          replace f95 := f95.u b14
          replace f126 := f126.u b14
          exact wl_tof hj (Fr.le_of (by kernel_rfl) (by kernel_rfl) (by repeat' constructor)) ⟨_, _, _, _, _, _, _, _, g14, rfl, f122, f126, f14, by omega, b122.trans ((b126.mono (by omega)).trans (b14.mono (by omega)))⟩
        · refine wl_allocg [_, _, _] Try.zeroValue25 (by rfl) ?_
          rintro g14 w14 f14 b14 i14 i14_1
          have s14 := b14.size
          replace hw1 := hw1.trans (b14.mono hw1.size)
          replace hw := hw.trans (b14.mono hw.size)
          replace f95 := f95.u b14
          replace f73 := f73.u b14
          replace f40 := f40.u b14
          replace f35 := f35.u b14
          replace f32 := f32.u b14
          replace f5 := f5.u b14
          replace f31 := f31.u b14
          replace f34 := f34.u b14
          replace f38 := f38.u b14
          replace f41_1 := f41_1.u b14
          replace f41 := f41.u b14
          replace f := f.u b14
          replace f86 := f86.u b14
          replace f93_1 := f93_1.u b14
          replace f93 := f93.u b14
          replace f96 := f96.u b14
          replace f121 := f121.u b14
          replace f125 := f125.u b14
          replace f122 := f122.u b14
          refine wl_call rfl (C_Names' _ f125 (by simp) (by simp; omega)) ?_
          rintro v126 w126 ⟨A126, ⟨c126, ⟨rfl, ⟨f126, b126⟩⟩⟩⟩
          replace f126 := f126.h_
          have qf126 := f126.cap
          have s126 := b126.size
          replace hw1 := hw1.trans (b126.mono hw1.size)
          replace hw := hw.trans (b126.mono hw.size)
          replace f122 := f122.u b126
          replace f125 := f125.u b126
          replace f121 := f121.u b126
          replace f96 := f96.u b126
          replace f93 := f93.u b126
          replace f93_1 := f93_1.u b126
          replace f86 := f86.u b126
          replace f := f.u b126
          replace f41 := f41.u b126
          replace f41_1 := f41_1.u b126
          replace f38 := f38.u b126
          replace f34 := f34.u b126
          replace f31 := f31.u b126
          replace f5 := f5.u b126
          replace f32 := f32.u b126
          replace f35 := f35.u b126
          replace f40 := f40.u b126
          replace f73 := f73.u b126
          replace f95 := f95.u b126
          replace f14 := f14.u b126
          refine wl_p (fun _ => (o_buildg [_, _, _] Try.underlying25 Try.zeroValue25 (by rfl) (by rfl) rfl (by rfl) (by rfl) (fun _ => by kernel_rfl))) ?_
          exact wl_tof hj (Fr.le_of (by kernel_rfl) (by kernel_rfl) (by repeat' constructor)) ⟨_, _, _, _, _, _, _, _, g14, rfl, f122, f126, f14, by omega, b122.trans ((b14.mono (by omega)).trans (b126.mono (by omega)))⟩
      · refine wl_allocg [_, _, _] Try.zeroValue25 (by rfl) ?_
        rintro g14 w14 f14 b14 i14 i14_1
        simp only [drew_size] at b14
        simp only [drew_size] at i14
        have s14 := b14.size
        simp only [drew_size] at s14
        replace hw1 := hw1.trans (b14.mono hw1.size)
        replace hw := hw.trans (b14.mono hw.size)
        replace f125 := f125.u b14
        replace f121 := f121.u b14
        replace f96 := f96.u b14
        replace f93 := f93.u b14
        replace f93_1 := f93_1.u b14
        replace f86 := f86.u b14
        replace f := f.u b14
        replace f41 := f41.u b14
        replace f41_1 := f41_1.u b14
        replace f38 := f38.u b14
        replace f34 := f34.u b14
        replace f31 := f31.u b14
        replace f5 := f5.u b14
        replace f32 := f32.u b14
        replace f35 := f35.u b14
        replace f40 := f40.u b14
        replace f73 := f73.u b14
        replace f95 := f95.u b14
        refine wl_call rfl (C_Names' _ f121 (by simp) (by simp; omega)) ?_
        rintro v122 w122 ⟨A122, ⟨c122, ⟨rfl, ⟨f122, b122⟩⟩⟩⟩
        replace f122 := f122.h_
        have qf122 := f122.cap
        have s122 := b122.size
        replace hw1 := hw1.trans (b122.mono hw1.size)
        replace hw := hw.trans (b122.mono hw.size)
        replace f95 := f95.u b122
        replace f73 := f73.u b122
        replace f40 := f40.u b122
        replace f35 := f35.u b122
        replace f32 := f32.u b122
        replace f5 := f5.u b122
        replace f31 := f31.u b122
        replace f34 := f34.u b122
        replace f38 := f38.u b122
        replace f41_1 := f41_1.u b122
        replace f41 := f41.u b122
        replace f := f.u b122
        replace f86 := f86.u b122
        replace f93_1 := f93_1.u b122
        replace f93 := f93.u b122
        replace f96 := f96.u b122
        replace f121 := f121.u b122
        replace f125 := f125.u b122
        replace f14 := f14.u b122
        refine wl_call rfl (C_Names' _ f125 (by simp) (by simp; omega)) ?_
        rintro v126 w126 ⟨A126, ⟨c126, ⟨rfl, ⟨f126, b126⟩⟩⟩⟩
        replace f126 := f126.h_
        have qf126 := f126.cap
        have s126 := b126.size
        replace hw1 := hw1.trans (b126.mono hw1.size)
        replace hw := hw.trans (b126.mono hw.size)
        replace f14 := f14.u b126
        replace f125 := f125.u b126
        replace f121 := f121.u b126
        replace f96 := f96.u b126
        replace f93 := f93.u b126
        replace f93_1 := f93_1.u b126
        replace f86 := f86.u b126
        replace f := f.u b126
        replace f41 := f41.u b126
        replace f41_1 := f41_1.u b126
        replace f38 := f38.u b126
        replace f34 := f34.u b126
        replace f31 := f31.u b126
        replace f5 := f5.u b126
        replace f32 := f32.u b126
        replace f35 := f35.u b126
        replace f40 := f40.u b126
        replace f73 := f73.u b126
        replace f95 := f95.u b126
        replace f122 := f122.u b126
        refine wl_p (fun _ => (o_buildg [_, _, _] Try.underlying25 Try.zeroValue25 (by rfl) (by rfl) rfl (by rfl) (by rfl) (fun _ => by kernel_rfl))) ?_
        exact wl_tof hj (Fr.le_of (by kernel_rfl) (by kernel_rfl) (by repeat' constructor)) ⟨_, _, _, _, _, _, _, _, g14, rfl, f122, f126, f14, by omega, b14.trans ((b122.mono (by omega)).trans (b126.mono (by omega)))⟩
    · refine rk_exit rfl ?_
      exact rk_tof hj (Fr.le_of (by kernel_rfl) (by kernel_rfl) (by repeat' constructor)) ⟨rfl, hw1⟩
  rintro fr w2 ⟨rfl, bj⟩
  first | refine rk_frame (by simp only [List.cons_append, List.nil_append, List.drop_succ_cons, List.drop_zero]; rfl) ?_ | refine wl_frame (by simp only [List.cons_append, List.nil_append, List.drop_succ_cons, List.drop_zero]; rfl) ?_
  have sbj := bj.size
  replace hw := hw.trans (bj.mono hw.size)
  replace f96 := f96.u bj
  replace f93 := f93.u bj
  replace f93_1 := f93_1.u bj
  replace f86 := f86.u bj
  replace f := f.u bj
  replace f41 := f41.u bj
  replace f41_1 := f41_1.u bj
  replace f38 := f38.u bj
  replace f34 := f34.u bj
  replace f31 := f31.u bj
  replace f5 := f5.u bj
  replace f32 := f32.u bj
  replace f35 := f35.u bj
  replace f40 := f40.u bj
  replace f73 := f73.u bj
  replace f95 := f95.u bj
  refine rk_seq ?_
  refine rk_drawo (id := 18) (none) [0, 1, 0, 4, 0, 16, 40, 66, 130, 256, 256, 1792, 2304, 8191] [0, 1, 0, 4, 0, 16, 60, 127, 255, 511, 511, 2047, 4095, 8191] 2050 2 [0, 2, 3, 4, 5, 6, 1, 7, 8, 9, 10, 11, 12, 13] [(.r, 0), (.p, 2), (.p, 3), (.p, 4), (.s, 5), (.p, 6), (.c, 1), (.p, 7), (.p, 8), (.r, 9), (.r, 10), (.l, 11), (.p, 12), (.p, 13)] (by kernel_rfl) (by kernel_rfl) (by kernel_rfl) (by kernel_rfl) (by kernel_rfl) ?_
  dsimp only [inOrder, nthOp]
  replace hw := hw.drew
  replace f95 := f95.d
  replace f73 := f73.d
  replace f40 := f40.d
  replace f35 := f35.d
  replace f32 := f32.d
  replace f5 := f5.d
  replace f31 := f31.d
  replace f34 := f34.d
  replace f38 := f38.d
  replace f41_1 := f41_1.d
  replace f41 := f41.d
  replace f := f.d
  replace f86 := f86.d
  replace f93_1 := f93_1.d
  replace f93 := f93.d
  replace f96 := f96.d
  refine wl_r (o_loadag Try.isAgg25 Try.sizeOf25 rfl f (by rfl)) ?_
  refine wl_p (fun _ => o_move rfl) ?_
  refine wl_p (fun _ => o_len (t := 23) Try.underlying23 rfl) ?_
  refine wl_p (fun _ => o_faddr (s := 25) (i := 0) (off := 0) Try.underlying25 rfl Try.sizeOf3 rfl rfl rfl) ?_
  refine wl_s (fun _ hk => (o_loadbg Try.isAgg3 rfl (f.u (below_of_grown_none hk)) (by rfl))) ?_
  refine wl_p (fun _ => o_sub rfl rfl (by omega) (by omega)) ?_
  refine wl_call rfl (C_Depth' _ (PlV.mk_ f41.to_RD f41_1.to_RD rfl rfl (by omega) (by omega)) bab ⟨by simp; omega, by simp; omega⟩) ?_ (hq := .inr fun _ _ h => grown_of_below h.2 _)
  rintro v132 w132 ⟨rfl, b132⟩
  simp only [drew_size] at b132
  dsimp only
  have s132 := b132.size
  simp only [drew_size] at s132
  replace hw := hw.trans (b132.mono hw.size)
  replace f96 := f96.u b132
  replace f93 := f93.u b132
  replace f93_1 := f93_1.u b132
  replace f86 := f86.u b132
  replace f := f.u b132
  replace f41 := f41.u b132
  replace f41_1 := f41_1.u b132
  replace f38 := f38.u b132
  replace f34 := f34.u b132
  replace f31 := f31.u b132
  replace f5 := f5.u b132
  replace f32 := f32.u b132
  replace f35 := f35.u b132
  replace f40 := f40.u b132
  replace f73 := f73.u b132
  replace f95 := f95.u b132
  refine wl_p (fun _ => o_eq rfl rfl) ?_
  refine wl_p (fun _ => o_move rfl) ?_
  refine wl_know 139 true rfl (by simp; omega) ?_
  refine wl_r (o_loadag Try.isAgg25 Try.sizeOf25 rfl f (by rfl)) ?_
  refine wl_r (o_loadag Try.isAgg25 Try.sizeOf25 rfl f (by rfl)) ?_
  refine wl_call rfl (C_Same _ (PlV.mk_ f41.to_RD f41_1.to_RD rfl rfl (by omega) (by omega)) (PlV.mk_ f41.to_RD f41_1.to_RD rfl rfl (by omega) (by omega)) ⟨by simp; omega, by simp; omega⟩ ⟨by simp; omega, by simp; omega⟩) ?_
  rintro v142 w142 ⟨rfl, b142⟩
  have s142 := b142.size
  replace hw := hw.trans (b142.mono hw.size)
  replace f95 := f95.u b142
  replace f73 := f73.u b142
  replace f40 := f40.u b142
  replace f35 := f35.u b142
  replace f32 := f32.u b142
  replace f5 := f5.u b142
  replace f31 := f31.u b142
  replace f34 := f34.u b142
  replace f38 := f38.u b142
  replace f41_1 := f41_1.u b142
  replace f41 := f41.u b142
  replace f := f.u b142
  replace f86 := f86.u b142
  replace f93_1 := f93_1.u b142
  replace f93 := f93.u b142
  replace f96 := f96.u b142
  refine wl_p (fun _ => o_pick_t rfl rfl) ?_
  refine wl_p (fun _ => o_assign rfl) ?_
  refine wl_nild ?_
  refine ret1 rfl rfl ?_
  exact ⟨by simp, hw⟩
end Go.Proofs.Ytbncaabcddoicaa
