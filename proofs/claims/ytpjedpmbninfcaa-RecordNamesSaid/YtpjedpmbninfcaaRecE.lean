/-
  The statement RecordNames: its walk.
-/
import Derived.Test.YtpjedpmbninfcaaRecD
import Derived.Test.YtpjedpmbninfcaaConcE
import Derived.Test.YtpjedpmbninfcaaDeq
namespace Go.Proofs.Ytpjedpmbninfcaa
open Go.RowKit
/-- The first chain of an epoch. -/
def firstB (n : Nat) : By := sumB [wB8 n]
def xyB : By := bytesR (firstB 3) (9, [120, 121])
theorem nm_read : readR (firstB 3) (xyB ++ [7]) = ((9, [120, 121]), 12, nextB (firstB 3) (9, [120, 121]), 0) := by kernel_rfl
theorem nm_other : readR (firstB 4) xyB = ((0, []), 0, nul32, 4) := by kernel_rfl
theorem nm_len : xyB.length = 12 := by kernel_rfl
theorem nm_zero : xyB.take 2 = [9, 2] := by kernel_rfl
set_option maxRecDepth 100000 in
set_option maxHeartbeats 4000000 in
theorem C_RecordNames (w : World) : CallsR Try.prog 3 [] w fun v w' => v = .bool true ∧ Below w.heap.size w w' := by
  have r1 := nm_read
  have r2 := nm_other
  have r3 := nm_len
  have r4 := nm_zero
  obtain ⟨b, hb⟩ : ∃ b, xyB = b := ⟨_, rfl⟩
  have h5 : bytesR (firstB 3) (9, [120, 121]) = b := hb
  obtain ⟨c3, h3⟩ : ∃ c, firstB 3 = c := ⟨_, rfl⟩
  obtain ⟨c4, h4⟩ : ∃ c, firstB 4 = c := ⟨_, rfl⟩
  have n3 : c3.length = 32 := by rw [← h3]; exact sumB_len _
  have n4 : c4.length = 32 := by rw [← h4]; exact sumB_len _
  obtain ⟨m, h6⟩ : ∃ m, nextB c3 (9, [120, 121]) = m := ⟨_, rfl⟩
  have n6 : m.length = 32 := by rw [← h6]; exact nextB_len _ _
  rw [hb, h3, h6] at r1
  rw [hb, h4] at r2
  rw [hb] at r3 r4
  rw [h3] at h5
  have b0 : b[0].toNat = 9 := by
    have e : (b.take 2)[0]? = some 9 := by rw [r4]; rfl
    rw [List.getElem?_take_of_lt (by omega), List.getElem?_eq_getElem (by omega)] at e
    rw [Option.some.inj e]; rfl
  have b1 : b[1].toNat = 2 := by
    have e : (b.take 2)[1]? = some 2 := by rw [r4]; rfl
    rw [List.getElem?_take_of_lt (by omega), List.getElem?_eq_getElem (by omega)] at e
    rw [Option.some.inj e]; rfl
  unfold firstB at h3 h4
  have u9 : (9 : Int) = ((9 : UInt8).toNat : Int) := rfl
  have u1 : (1 : Int) = ((1 : UInt8).toNat : Int) := rfl
  have u0 : (0 : Int) = ((0 : UInt8).toNat : Int) := rfl
  have o9 : OkR (9, [120, 121]) := by decide
  have o0 : ¬ OkR (0, []) := by decide
  obtain ⟨Z, hZ⟩ : ∃ Z : By, List.replicate 8193 0 = Z := ⟨_, rfl⟩
  have hZl : 8193 = Z.length := by rw [← hZ, List.length_replicate]
  have o1 : ¬ OkR (1, Z) := fun h => by have := h.2; simp only at this; omega
  refine callsR Try.func3 rfl rfl (by kernel_rfl) rfl ?_
  have hw := Below.refl w.heap.size w
  refine rk_seq ?_
  refine rk_region ?_
  refine wl_p (fun _ => o_assign rfl) ?_
  refine wl_nil ?_
  refine rk_seq ?_
  refine rk_region ?_
  refine wl_call rfl (C_First _ (by omega) (by omega) h3) ?_
  rintro v16 w16 ⟨rfl, b16⟩
  have s16 := b16.size
  replace hw := hw.trans (b16.mono hw.size)
  refine wl_allocB Try.underlying23 Try.zeroValue23 (by rfl) ?_
  rintro g1 w1 f1 b1_1 i1 i1_1
  have s1 := b1_1.size
  replace hw := hw.trans (b1_1.mono hw.size)
  refine wl_stBa Try.sizeOf23 rfl f1 rfl n3 (by rfl) ?_
  rintro w_1 f g e
  have s := g.size
  replace hw := hw.trans (below_of_grownBy g.g hw.size (by omega))
  clear f1
  refine wl_nil ?_
  refine rk_seq ?_
  refine rk_region ?_
  refine wl_r (o_ldBa Try.isAgg23 Try.sizeOf23 rfl f n3) ?_
  refine wl_litC [120, 121] Try.u8 Try.sizeOf5 Try.zeroValue5 (by rfl) rfl rfl (by rfl) (by rfl) (by rfl) ?_
  rintro A19 w19 f19 b19
  have s19 := b19.size
  replace hw := hw.trans (b19.mono hw.size)
  replace f := f.u b19
  refine wl_p (fun _ => (o_buildg [_, _] Try.underlying31 Try.zeroValue31 (by rfl) (by rfl) rfl (by rfl) (by rfl) (fun _ => by kernel_rfl))) ?_
  refine wl_call rfl (C_RecBytesOk _ u9 f19.to_Rd (by omega) h5 h6 (by rfl) (by simp) n3) ?_
  rintro v22 w22 ⟨A22, ⟨c22, ⟨rfl, ⟨f22, b22⟩⟩⟩⟩
  have qf22 := f22.cap
  have s22 := b22.size
  replace hw := hw.trans (b22.mono hw.size)
  replace f := f.u b22
  replace f19 := f19.u b22
  refine wl_p (fun _ => o_move rfl) ?_
  refine wl_p (fun _ => o_ext30 rfl) ?_
  refine wl_p (fun _ => o_ext31 rfl) ?_
  refine wl_p (fun _ => o_ext32 rfl) ?_
  refine wl_allocB Try.underlying23 Try.zeroValue23 (by rfl) ?_
  rintro g3 w3 f3 b3 i3 i3_1
  have s3 := b3.size
  replace hw := hw.trans (b3.mono hw.size)
  replace f19 := f19.u b3
  replace f := f.u b3
  replace f22 := f22.u b3
  refine wl_p (fun _ => o_assign rfl) ?_
  refine wl_stBa Try.sizeOf23 rfl f3 rfl n6 (by rfl) ?_
  rintro w_2 f_1 g_1 e_1
  have s_1 := g_1.size
  replace hw := hw.trans (below_of_grownBy g_1.g hw.size (by omega))
  replace f22 := f22.k g_1.g (ap_some (by omega))
  replace f := f.k g_1.g (ap_some (by omega))
  replace f19 := f19.y g_1 (by decide)
  clear f3
  refine wl_p (fun _ => o_assign rfl) ?_
  refine wl_nil ?_
  refine rk_seq ?_
  refine rk_drawoB (id := 3) (none) [0, 0, 2, 0, 12, 17, 32, 64, 64, 64, 64, 0, 0, 6399, 14847, 31743, 65535] [0, 0, 2, 0, 14, 31, 63, 127, 127, 127, 127, 0, 0, 6399, 14847, 31743, 65535] 47164 6172 [0, 1] [(.s, 0), (.p, 1), (.f 3 47164 6172, 15)] (by kernel_rfl) (by kernel_rfl) (by kernel_rfl) (by kernel_rfl) (by kernel_rfl) ?_
  dsimp only [inOrder, nthOp]
  replace hw := hw.drew
  replace f19 := f19.d
  replace f := f.d
  replace f22 := f22.d
  replace f_1 := f_1.d
  refine wl_s (fun _ hk => (o_ldBa Try.isAgg23 Try.sizeOf23 rfl (f.u (below_of_ok hk (Nat.le_refl _) (fun _ e => by cases e))) n3)) ?_
  refine wl_p (fun _ => o_move rfl) ?_
  refine wl_concE 2 0 [⟨2, [], [29], [], fun vs w' lo hi => ∃ (A29 : Option Addr) (c29 : Nat), vs = [.slice A29 b.length c29] ∧ OwnH w' lo hi A29 c29 b⟩, ⟨3, [], [30], [], fun vs w' lo hi => ∃ (A30 : Option Addr), vs = [.slice A30 1 1] ∧ OwnH w' lo hi A30 1 [7]⟩, ⟨4, [], [31], [0, 1], fun vs w' lo hi => ∃ (A31 : Option Addr) (c31 l31 h31 : Nat), vs = [.slice A31 (b ++ [7]).length c31] ∧ OwnH w' l31 h31 A31 c31 (b ++ [7])⟩, ⟨5, [(.p, 6), (.p, 7), (.p, 8), (.p, 9), (.p, 10)], [36, 35, 34, 33, 26, 32], [0, 1, 2], fun vs w' lo hi => ∃ (A32 : Option Addr) (c32 : Nat) (u26 u32 : Value), vs = [.int .i64 0, .agg (B8 m).toArray, .int .i64 12, .agg #[.int .u8 (((9 : UInt8).toNat : Nat) : Int), .slice A32 2 c32], u26, u32] ∧ OwnH w' lo hi A32 c32 [120, 121]⟩, ⟨11, [], [5], [], fun vs w' lo hi => ∃ (g5 : Nat), vs = [.pointer (some ⟨g5, 0, none⟩)] ∧ Blk w' g5 31 [.int .u8 0, .slice none 0 0] ∧ lo ≤ g5 ∧ g5 < hi⟩, ⟨12, [], [7], [], fun vs w' lo hi => ∃ (g7 : Nat), vs = [.pointer (some ⟨g7, 0, none⟩)] ∧ Blk w' g7 23 (B8 nul32) ∧ lo ≤ g7 ∧ g7 < hi⟩] [1, 2, 3, 4, 5] [0, 0, 2, 0, 12, 17, 32, 64, 64, 64, 64, 0, 0, 6399, 14847, 31743, 65535] [0, 0, 2, 0, 14, 31, 63, 127, 127, 127, 127, 0, 0, 6399, 14847, 31743, 65535] [13, 14, 15, 16] [(.l, 13), (.p, 14), (.l, 15), (.p, 16)] (by kernel_rfl) (by kernel_rfl) (by kernel_rfl) (by kernel_rfl) ⟨fun _ _ _ _ _ h hb => by obtain ⟨A29, c29, e0, g0⟩ := h; exact ⟨A29, c29, e0, g0.u hb⟩, fun _ _ _ _ _ h hb => by obtain ⟨A30, e0, g0⟩ := h; exact ⟨A30, e0, g0.u hb⟩, fun _ _ _ _ _ h hb => by obtain ⟨A31, c31, l31, h31, e0, g0⟩ := h; exact ⟨A31, c31, l31, h31, e0, g0.u hb⟩, fun _ _ _ _ _ h hb => by obtain ⟨A32, c32, u26, u32, e0, g0⟩ := h; exact ⟨A32, c32, u26, u32, e0, g0.u hb⟩, fun _ _ _ _ _ h hb => by obtain ⟨g5, e0, g0, g1, g2⟩ := h; exact ⟨g5, e0, g0.u hb, g1, g2⟩, fun _ _ _ _ _ h hb => by obtain ⟨g7, e0, g0, g1, g2⟩ := h; exact ⟨g7, e0, g0.u hb, g1, g2⟩, trivial⟩ ⟨trivial, fun _ _ _ _ _ _ h hg ha => by obtain ⟨A30, e0, g0⟩ := h; exact ⟨A30, e0, g0.k hg (fun k e => by have := (ha k e).2; omega)⟩, trivial, fun _ _ _ _ _ _ h hg ha => by obtain ⟨A32, c32, u26, u32, e0, g0⟩ := h; exact ⟨A32, c32, u26, u32, e0, g0.k hg (fun k e => by have := (ha k e).2; omega)⟩, fun _ _ _ _ _ _ h hg ha => by obtain ⟨g5, e0, g0, g1, g2⟩ := h; exact ⟨g5, e0, g0.k hg (fun k e => by have := (ha k e).2; omega), g1, g2⟩, fun _ _ _ _ _ _ h hg ha => by obtain ⟨g7, e0, g0, g1, g2⟩ := h; exact ⟨g7, e0, g0.k hg (fun k e => by have := (ha k e).2; omega), g1, g2⟩, trivial⟩ ⟨?_, ?_, ?_, ?_, ?_, ?_, trivial⟩ ?_
  · intro wI hbI fo T T2 n2
    intro hk
    dsimp only [Item.idx, inOrder, nthOp, List.map, List.zip_cons_cons, List.zip_nil_right, List.cons_append, List.nil_append]
    have shbI := hbI.size
    simp only [drew_size] at shbI
    replace hw := hw.trans (hbI.mono hw.size)
    replace f_1 := f_1.u hbI
    replace f22 := f22.u hbI
    replace f := f.u hbI
    replace f19 := f19.u hbI
    have hw1 := Below.refl wI.heap.size wI
    refine wl_call rfl (C_OwnB _ f22.to_Rd rfl (by omega)) ?_ (hq := .inr fun _ _ h => grown_of_below h.choose_spec.choose_spec.2.2 _)
    rintro v29 w29 ⟨A29, ⟨c29, ⟨rfl, ⟨f29, b29⟩⟩⟩⟩
    have qf29 := f29.cap
    have s29 := b29.size
    replace hw := hw.trans (b29.mono hw.size)
    replace hw1 := hw1.trans (b29.mono hw1.size)
    replace f19 := f19.u b29
    replace f := f.u b29
    replace f22 := f22.u b29
    replace f_1 := f_1.u b29
    exact hk [_] _ ⟨_, _, rfl, f29⟩ hw1
  · intro wI hbI fo T T2 n2
    intro hk
    dsimp only [Item.idx, inOrder, nthOp, List.map, List.zip_cons_cons, List.zip_nil_right, List.cons_append, List.nil_append]
    have shbI := hbI.size
    simp only [drew_size] at shbI
    replace hw := hw.trans (hbI.mono hw.size)
    replace f_1 := f_1.u hbI
    replace f22 := f22.u hbI
    replace f := f.u hbI
    replace f19 := f19.u hbI
    have hw1 := Below.refl wI.heap.size wI
    refine wl_litB [7] Try.u8 Try.sizeOf5 Try.zeroValue5 (by rfl) rfl rfl (by rfl) (by rfl) (by rfl) ?_
    rintro A30 w30 f30 b30
    have qf30 := f30.cap
    have s30 := b30.size
    replace hw := hw.trans (b30.mono hw.size)
    replace hw1 := hw1.trans (b30.mono hw1.size)
    replace f19 := f19.u b30
    replace f := f.u b30
    replace f22 := f22.u b30
    replace f_1 := f_1.u b30
    exact hk [_] _ ⟨_, rfl, f30⟩ hw1
  · intro wI hbI fo T T2 n2
    rintro _ lo0 hi0 ⟨A29, c29, rfl, f29⟩ ql0 qm0 qh0
    rintro _ lo1 hi1 ⟨A30, rfl, f30⟩ ql1 qm1 qh1 ⟨qa1_0, -⟩
    try dsimp only at ql1 qm1 qh1 qa1_0 ql0
    try simp only [drew_size] at ql1 qm1 qh1 qa1_0 ql0
    intro hk
    dsimp only [Item.idx, inOrder, nthOp, List.map, List.zip_cons_cons, List.zip_nil_right, List.cons_append, List.nil_append]
    have shbI := hbI.size
    simp only [drew_size] at shbI
    replace hw := hw.trans (hbI.mono hw.size)
    replace f_1 := f_1.u hbI
    replace f22 := f22.u hbI
    replace f := f.u hbI
    replace f19 := f19.u hbI
    have hrow := f29.rng
    have hw1 := Below.refl wI.heap.size wI
    refine wl_appBm Try.u8 rfl f29 rfl rfl f30.to_Rd (by rfl) (by simp; omega) (by omega) ?_ (hq := .inr (.inr (f29.ge_ (by omega))))
    rintro A31 c31 w31 f31 g31 b31
    have qf31 := f31.cap
    have s31 := g31.size
    replace hw := hw.trans (b31.mono (by omega))
    replace f := f.y g31 (by decide)
    replace f22 := f22.k g31.g (f29.ap (by omega))
    replace f_1 := f_1.y g31 (by decide)
    replace f30 := f30.k g31.g (f29.ap (by omega))
    clear f19
    clear f29
    exact hk [_] _ _ ⟨_, _, _, _, rfl, f31⟩ (Grew.g (by assumption)) hrow
  · intro wI hbI fo T T2 n2
    rintro _ lo1 hi1 ⟨A30, rfl, f30⟩ ql1 qm1 qh1 -
    rintro _ lo2 hi2 ⟨A31, c31, l31, h31, rfl, f31⟩ ql2 qm2 qh2 ⟨qa2_1, -⟩
    try dsimp only at ql1 qm1 qh1  ql2 qm2 qh2 qa2_1
    try simp only [drew_size] at ql1 qm1 qh1  ql2 qm2 qh2 qa2_1
    intro hk
    dsimp only [Item.idx, inOrder, nthOp, List.map, List.zip_cons_cons, List.zip_nil_right, List.cons_append, List.nil_append]
    have shbI := hbI.size
    simp only [drew_size] at shbI
    replace hw := hw.trans (hbI.mono hw.size)
    replace f_1 := f_1.u hbI
    replace f22 := f22.u hbI
    replace f := f.u hbI
    replace f19 := f19.u hbI
    have hw1 := Below.refl wI.heap.size wI
    refine wl_call rfl (C_RecReadN _ r1 f31.to_Rd rfl f31.cap n3 (by simp; omega)) ?_
    rintro v32 w32 ⟨A32, ⟨c32, ⟨rfl, ⟨f32, b32⟩⟩⟩⟩
    dsimp only at f32
    dsimp only
    have qf32 := f32.cap
    have s32 := b32.size
    replace hw := hw.trans (b32.mono hw.size)
    replace hw1 := hw1.trans (b32.mono hw1.size)
    replace f19 := f19.u b32
    replace f := f.u b32
    replace f22 := f22.u b32
    replace f_1 := f_1.u b32
    replace f31 := f31.u b32
    replace f30 := f30.u b32
    refine wl_p (fun _ => o_move rfl) ?_
    refine wl_p (fun _ => o_ext40 rfl) ?_
    refine wl_p (fun _ => o_ext41 rfl) ?_
    refine wl_p (fun _ => o_ext42 rfl) ?_
    refine wl_p (fun _ => o_ext43 rfl) ?_
    exact hk [_, _, _, _, _, _] _ ⟨_, _, _, _, rfl, f32⟩ hw1
  · intro wI hbI fo T T2 n2
    intro hk
    dsimp only [Item.idx, inOrder, nthOp, List.map, List.zip_cons_cons, List.zip_nil_right, List.cons_append, List.nil_append]
    have shbI := hbI.size
    simp only [drew_size] at shbI
    replace hw := hw.trans (hbI.mono hw.size)
    replace f_1 := f_1.u hbI
    replace f22 := f22.u hbI
    replace f := f.u hbI
    replace f19 := f19.u hbI
    have hw1 := Below.refl wI.heap.size wI
    refine wl_allocg [_, _] Try.zeroValue31 (by rfl) ?_
    rintro g5 w5 f5 b5 i5 i5_1
    have s5 := b5.size
    replace hw := hw.trans (b5.mono hw.size)
    replace hw1 := hw1.trans (b5.mono hw1.size)
    replace f19 := f19.u b5
    replace f := f.u b5
    replace f22 := f22.u b5
    replace f_1 := f_1.u b5
    exact hk [_] _ ⟨_, rfl, f5, by omega, by omega⟩ hw1
  · intro wI hbI fo T T2 n2
    intro hk
    dsimp only [Item.idx, inOrder, nthOp, List.map, List.zip_cons_cons, List.zip_nil_right, List.cons_append, List.nil_append]
    have shbI := hbI.size
    simp only [drew_size] at shbI
    replace hw := hw.trans (hbI.mono hw.size)
    replace f_1 := f_1.u hbI
    replace f22 := f22.u hbI
    replace f := f.u hbI
    replace f19 := f19.u hbI
    have hw1 := Below.refl wI.heap.size wI
    refine wl_allocB Try.underlying23 Try.zeroValue23 (by rfl) ?_
    rintro g7 w7 f7 b7 i7 i7_1
    have s7 := b7.size
    replace hw := hw.trans (b7.mono hw.size)
    replace hw1 := hw1.trans (b7.mono hw1.size)
    replace f19 := f19.u b7
    replace f := f.u b7
    replace f22 := f22.u b7
    replace f_1 := f_1.u b7
    exact hk [_] _ ⟨_, rfl, f7, by omega, by omega⟩ hw1
  · intro wE hbE
    rintro _ lo1 hi1 ⟨A30, rfl, f30⟩ ql1 qm1 qh1 -
    rintro _ lo2 hi2 ⟨A31, c31, l31, h31, rfl, f31⟩ ql2 qm2 qh2 ⟨qa2_1, -⟩
    rintro _ lo3 hi3 ⟨A32, c32, u26, u32, rfl, f32⟩ ql3 qm3 qh3 ⟨qa3_2, qa3_1, -⟩
    rintro _ lo4 hi4 ⟨g5, rfl, f5, f5_1, f5_2⟩ ql4 qm4 qh4 ⟨qa4_3, qa4_2, qa4_1, -⟩
    rintro _ lo5 hi5 ⟨g7, rfl, f7, f7_1, f7_2⟩ ql5 qm5 qh5 ⟨qa5_4, qa5_3, qa5_2, qa5_1, -⟩
    try dsimp only at ql1 qm1 qh1  ql2 qm2 qh2 qa2_1 ql3 qm3 qh3 qa3_1 qa3_2 ql4 qm4 qh4 qa4_1 qa4_2 qa4_3 ql5 qm5 qh5 qa5_1 qa5_2 qa5_3 qa5_4
    try simp only [drew_size] at ql1 qm1 qh1  ql2 qm2 qh2 qa2_1 ql3 qm3 qh3 qa3_1 qa3_2 ql4 qm4 qh4 qa4_1 qa4_2 qa4_3 ql5 qm5 qh5 qa5_1 qa5_2 qa5_3 qa5_4
    dsimp only [given, Item.idx, inOrder, nthOp, List.map, List.zip_cons_cons, List.zip_nil_right, List.cons_append, List.nil_append]
    have shbE := hbE.size
    simp only [drew_size] at shbE
    replace hw := hw.trans (hbE.mono hw.size)
    replace f_1 := f_1.u hbE
    replace f22 := f22.u hbE
    replace f := f.u hbE
    replace f19 := f19.u hbE
    refine wl_storega Try.sizeOf31 rfl rfl (by rfl) (oneCell_of (by rfl)) f5 (by rfl) ?_
    rintro w_3 f_2 g_2 e_2
    have s_2 := g_2.size
    replace hw := hw.trans (below_of_grownBy g_2.g hw.size (by omega))
    replace f19 := f19.y g_2 (by decide)
    replace f := f.k g_2.g (ap_some (by omega))
    replace f22 := f22.k g_2.g (ap_some (by omega))
    replace f_1 := f_1.k g_2.g (ap_some (by omega))
    replace f7 := f7.k g_2.g (ap_some (by omega))
    replace f32 := f32.k g_2.g (ap_some (by omega))
    replace f31 := f31.y g_2 (by decide)
    replace f30 := f30.k g_2.g (ap_some (by omega))
    clear f5
    refine wl_p (fun _ => o_assign rfl) ?_
    refine wl_stBa Try.sizeOf23 rfl f7 rfl n6 (by rfl) ?_
    rintro w_4 f_3 g_3 e_3
    have s_3 := g_3.size
    replace hw := hw.trans (below_of_grownBy g_3.g hw.size (by omega))
    replace f30 := f30.k g_3.g (ap_some (by omega))
    replace f31 := f31.y g_3 (by decide)
    replace f32 := f32.k g_3.g (ap_some (by omega))
    replace f_1 := f_1.k g_3.g (ap_some (by omega))
    replace f22 := f22.k g_3.g (ap_some (by omega))
    replace f := f.k g_3.g (ap_some (by omega))
    replace f19 := f19.y g_3 (by decide)
    replace f_2 := f_2.k g_3.g (ap_some (by omega))
    clear f7
    refine wl_p (fun _ => o_assign rfl) ?_
    refine wl_nild ?_
    refine rk_seq ?_
    refine rk_region ?_
    refine wl_call rfl (C_First _ (by omega) (by omega) h4) ?_
    rintro v38 w38 ⟨rfl, b38⟩
    have s38 := b38.size
    replace hw := hw.trans (b38.mono hw.size)
    replace f_2 := f_2.u b38
    replace f19 := f19.u b38
    replace f := f.u b38
    replace f22 := f22.u b38
    replace f_1 := f_1.u b38
    replace f32 := f32.u b38
    replace f31 := f31.u b38
    replace f30 := f30.u b38
    replace f_3 := f_3.u b38
    refine wl_p (fun _ => o_move rfl) ?_
    refine wl_call rfl (C_RecReadN _ r2 f22.to_Rd rfl (by omega) n4 (by omega)) ?_
    rintro v40 w40 ⟨A40, ⟨c40, ⟨rfl, ⟨f40, b40⟩⟩⟩⟩
    dsimp only at f40
    dsimp only
    have qf40 := f40.cap
    have s40 := b40.size
    replace hw := hw.trans (b40.mono hw.size)
    replace f_3 := f_3.u b40
    replace f30 := f30.u b40
    replace f31 := f31.u b40
    replace f32 := f32.u b40
    replace f_1 := f_1.u b40
    replace f22 := f22.u b40
    replace f := f.u b40
    replace f19 := f19.u b40
    replace f_2 := f_2.u b40
    refine wl_p (fun _ => o_move rfl) ?_
    refine wl_p (fun _ => o_ext40 rfl) ?_
    refine wl_p (fun _ => o_ext41 rfl) ?_
    refine wl_p (fun _ => o_ext42 rfl) ?_
    refine wl_p (fun _ => o_ext43 rfl) ?_
    refine wl_allocg [_, _] Try.zeroValue31 (by rfl) ?_
    rintro g9 w9 f9 b9 i9 i9_1
    have s9 := b9.size
    replace hw := hw.trans (b9.mono hw.size)
    replace f_2 := f_2.u b9
    replace f19 := f19.u b9
    replace f := f.u b9
    replace f22 := f22.u b9
    replace f_1 := f_1.u b9
    replace f32 := f32.u b9
    replace f31 := f31.u b9
    replace f30 := f30.u b9
    replace f_3 := f_3.u b9
    replace f40 := f40.u b9
    refine wl_allocB Try.underlying23 Try.zeroValue23 (by rfl) ?_
    rintro g11 w11 f11 b11 i11 i11_1
    have s11 := b11.size
    replace hw := hw.trans (b11.mono hw.size)
    replace f40 := f40.u b11
    replace f_3 := f_3.u b11
    replace f30 := f30.u b11
    replace f31 := f31.u b11
    replace f32 := f32.u b11
    replace f_1 := f_1.u b11
    replace f22 := f22.u b11
    replace f := f.u b11
    replace f19 := f19.u b11
    replace f_2 := f_2.u b11
    replace f9 := f9.u b11
    refine wl_storega Try.sizeOf31 rfl rfl (by rfl) (oneCell_of (by rfl)) f9 (by rfl) ?_
    rintro w_5 f_4 g_4 e_4
    have s_4 := g_4.size
    replace hw := hw.trans (below_of_grownBy g_4.g hw.size (by omega))
    replace f_2 := f_2.k g_4.g (ap_some (by omega))
    replace f19 := f19.y g_4 (by decide)
    replace f := f.k g_4.g (ap_some (by omega))
    replace f22 := f22.k g_4.g (ap_some (by omega))
    replace f_1 := f_1.k g_4.g (ap_some (by omega))
    replace f32 := f32.k g_4.g (ap_some (by omega))
    replace f31 := f31.y g_4 (by decide)
    replace f30 := f30.k g_4.g (ap_some (by omega))
    replace f_3 := f_3.k g_4.g (ap_some (by omega))
    replace f40 := f40.k g_4.g (ap_some (by omega))
    replace f11 := f11.k g_4.g (ap_some (by omega))
    clear f9
    refine wl_p (fun _ => o_assign rfl) ?_
    refine wl_stBa Try.sizeOf23 rfl f11 rfl (by rfl) (by rfl) ?_
    rintro w_6 f_5 g_5 e_5
    have s_5 := g_5.size
    replace hw := hw.trans (below_of_grownBy g_5.g hw.size (by omega))
    replace f40 := f40.k g_5.g (ap_some (by omega))
    replace f_3 := f_3.k g_5.g (ap_some (by omega))
    replace f30 := f30.k g_5.g (ap_some (by omega))
    replace f31 := f31.y g_5 (by decide)
    replace f32 := f32.k g_5.g (ap_some (by omega))
    replace f_1 := f_1.k g_5.g (ap_some (by omega))
    replace f22 := f22.k g_5.g (ap_some (by omega))
    replace f := f.k g_5.g (ap_some (by omega))
    replace f19 := f19.y g_5 (by decide)
    replace f_2 := f_2.k g_5.g (ap_some (by omega))
    replace f_4 := f_4.k g_5.g (ap_some (by omega))
    clear f11
    refine wl_p (fun _ => o_assign rfl) ?_
    refine wl_nil ?_
    refine rk_seq ?_
    refine rk_region ?_
    refine wl_r (o_ldBa Try.isAgg23 Try.sizeOf23 rfl f n3) ?_
    refine wl_p (fun _ => (o_buildg [_, _] Try.underlying31 Try.zeroValue31 (by rfl) (by rfl) rfl (by rfl) (by rfl) (fun _ => by kernel_rfl))) ?_
    refine wl_call rfl (C_RecBytesBad _ u0 (Rd.nil_) (by omega) (by rfl) (by simp) n3) ?_
    rintro v48 w48 ⟨A48, ⟨c48, ⟨e48, ⟨rfl, ⟨f48, ⟨e48_1, b48⟩⟩⟩⟩⟩⟩
    have qf48 := f48.cap
    have s48 := b48.size
    replace hw := hw.trans (b48.mono hw.size)
    replace f_4 := f_4.u b48
    replace f_2 := f_2.u b48
    replace f19 := f19.u b48
    replace f := f.u b48
    replace f22 := f22.u b48
    replace f_1 := f_1.u b48
    replace f32 := f32.u b48
    replace f31 := f31.u b48
    replace f30 := f30.u b48
    replace f_3 := f_3.u b48
    replace f40 := f40.u b48
    replace f_5 := f_5.u b48
    refine wl_p (fun _ => o_move rfl) ?_
    refine wl_p (fun _ => o_ext30 rfl) ?_
    refine wl_p (fun _ => o_ext31 rfl) ?_
    refine wl_p (fun _ => o_ext32 rfl) ?_
    refine wl_allocB Try.underlying23 Try.zeroValue23 (by rfl) ?_
    rintro g14 w14 f14 b14 i14 i14_1
    have s14 := b14.size
    replace hw := hw.trans (b14.mono hw.size)
    replace f_5 := f_5.u b14
    replace f40 := f40.u b14
    replace f_3 := f_3.u b14
    replace f30 := f30.u b14
    replace f31 := f31.u b14
    replace f32 := f32.u b14
    replace f_1 := f_1.u b14
    replace f22 := f22.u b14
    replace f := f.u b14
    replace f19 := f19.u b14
    replace f_2 := f_2.u b14
    replace f_4 := f_4.u b14
    replace f48 := f48.u b14
    refine wl_p (fun _ => o_assign rfl) ?_
    refine wl_stBa Try.sizeOf23 rfl f14 rfl e48_1 (by rfl) ?_
    rintro w_7 f_6 g_6 e_6
    have s_6 := g_6.size
    replace hw := hw.trans (below_of_grownBy g_6.g hw.size (by omega))
    replace f48 := f48.k g_6.g (ap_some (by omega))
    replace f_4 := f_4.k g_6.g (ap_some (by omega))
    replace f_2 := f_2.k g_6.g (ap_some (by omega))
    replace f19 := f19.y g_6 (by decide)
    replace f := f.k g_6.g (ap_some (by omega))
    replace f22 := f22.k g_6.g (ap_some (by omega))
    replace f_1 := f_1.k g_6.g (ap_some (by omega))
    replace f32 := f32.k g_6.g (ap_some (by omega))
    replace f31 := f31.y g_6 (by decide)
    replace f30 := f30.k g_6.g (ap_some (by omega))
    replace f_3 := f_3.k g_6.g (ap_some (by omega))
    replace f40 := f40.k g_6.g (ap_some (by omega))
    replace f_5 := f_5.k g_6.g (ap_some (by omega))
    clear f14
    refine wl_p (fun _ => o_assign rfl) ?_
    refine wl_nil ?_
    refine rk_seq ?_
    refine rk_region ?_
    dsimp only [List.append]
    refine wl_call rfl (C_lives08 _) ?_
    rintro v52 w52 ⟨rfl, b52⟩
    have s52 := b52.size
    replace hw := hw.trans (b52.mono hw.size)
    replace f_5 := f_5.u b52
    replace f40 := f40.u b52
    replace f_3 := f_3.u b52
    replace f30 := f30.u b52
    replace f31 := f31.u b52
    replace f32 := f32.u b52
    replace f_1 := f_1.u b52
    replace f22 := f22.u b52
    replace f := f.u b52
    replace f19 := f19.u b52
    replace f_2 := f_2.u b52
    replace f_4 := f_4.u b52
    replace f48 := f48.u b52
    replace f_6 := f_6.u b52
    refine wl_p (fun _ => o_move rfl) ?_
    refine wl_p (fun _ => o_move rfl) ?_
    refine wl_p (fun _ => o_eq rfl rfl) ?_
    refine wl_p (fun _ => o_pick_t rfl rfl) ?_
    refine wl_p (fun _ => o_move rfl) ?_
    refine wl_p (fun _ => o_move rfl) ?_
    refine wl_p (fun _ => o_len (t := 26) Try.underlying26 rfl) ?_
    refine wl_p (fun _ => o_eq rfl rfl) ?_
    refine wl_p (fun _ => o_pick_t rfl rfl) ?_
    refine wl_p (fun _ => o_move rfl) ?_
    refine wl_know 62 true rfl (decide_eq_true (by omega)) ?_
    refine wl_p (fun _ => o_move rfl) ?_
    refine wl_p (fun _ => (o_iaddrA1 (0) Try.underlying26 Try.sizeOf5 rfl rfl (by omega) (Reads.some_ f22.to_Reads (by decide) (by omega)) (by omega))) ?_
    refine wl_r (o_loadB Try.isAgg5 rfl f22.to_Rd (by omega)) ?_
    refine wl_p (fun _ => o_eq rfl rfl) ?_
    refine wl_p (fun _ => o_pick_t rfl rfl) ?_
    refine wl_p (fun _ => o_move rfl) ?_
    refine wl_know 68 true rfl (decide_eq_true (by omega)) ?_
    refine wl_p (fun _ => o_move rfl) ?_
    refine wl_p (fun _ => (o_iaddrA1 (1) Try.underlying26 Try.sizeOf5 rfl rfl (by omega) (Reads.some_ f22.to_Reads (by decide) (by omega)) (by omega))) ?_
    refine wl_r (o_loadB Try.isAgg5 rfl f22.to_Rd (by omega)) ?_
    refine wl_p (fun _ => o_eq rfl rfl) ?_
    refine wl_p (fun _ => o_pick_t rfl rfl) ?_
    refine wl_p (fun _ => o_move rfl) ?_
    refine wl_know 74 true rfl (decide_eq_true (by omega)) ?_
    refine wl_p (fun _ => o_move rfl) ?_
    refine wl_p (fun _ => o_eq rfl rfl) ?_
    refine wl_p (fun _ => o_pick_t rfl rfl) ?_
    refine wl_p (fun _ => o_move rfl) ?_
    refine wl_p (fun _ => o_move rfl) ?_
    refine wl_p (fun _ => o_eq rfl rfl) ?_
    refine wl_p (fun _ => o_pick_t rfl rfl) ?_
    refine wl_p (fun _ => o_move rfl) ?_
    refine wl_r (o_ldBa Try.isAgg23 Try.sizeOf23 rfl f_3 n6) ?_
    refine wl_r (o_ldBa Try.isAgg23 Try.sizeOf23 rfl f_1 n6) ?_
    refine wl_p (fun _ => (o_eqD32 rfl rfl n6 n6)) ?_
    refine wl_p (fun _ => o_pick_t rfl rfl) ?_
    refine wl_p (fun _ => o_move rfl) ?_
    refine wl_know 87 true rfl (by simp) ?_
    refine wl_r (o_loadag Try.isAgg31 Try.sizeOf31 rfl f_2 (by rfl)) ?_
    refine wl_litC [120, 121] Try.u8 Try.sizeOf5 Try.zeroValue5 (by rfl) rfl rfl (by rfl) (by rfl) (by rfl) ?_
    rintro A89 w89 f89 b89
    have s89 := b89.size
    replace hw := hw.trans (b89.mono hw.size)
    replace f_6 := f_6.u b89
    replace f48 := f48.u b89
    replace f_4 := f_4.u b89
    replace f_2 := f_2.u b89
    replace f19 := f19.u b89
    replace f := f.u b89
    replace f22 := f22.u b89
    replace f_1 := f_1.u b89
    replace f32 := f32.u b89
    replace f31 := f31.u b89
    replace f30 := f30.u b89
    replace f_3 := f_3.u b89
    replace f40 := f40.u b89
    replace f_5 := f_5.u b89
    refine wl_p (fun _ => (o_buildg [_, _] Try.underlying31 Try.zeroValue31 (by rfl) (by rfl) rfl (by rfl) (by rfl) (fun _ => by kernel_rfl))) ?_
    refine wl_call rfl (C_kRecZ _ (by rfl) u9 f32.to_Rd f89.to_Rd (by rfl) (by rfl)) ?_
    rintro v92 w92 ⟨rfl, b92⟩
    have s92 := b92.size
    replace hw := hw.trans (b92.mono hw.size)
    replace f_5 := f_5.u b92
    replace f40 := f40.u b92
    replace f_3 := f_3.u b92
    replace f30 := f30.u b92
    replace f31 := f31.u b92
    replace f32 := f32.u b92
    replace f_1 := f_1.u b92
    replace f22 := f22.u b92
    replace f := f.u b92
    replace f19 := f19.u b92
    replace f_2 := f_2.u b92
    replace f_4 := f_4.u b92
    replace f48 := f48.u b92
    replace f_6 := f_6.u b92
    replace f89 := f89.u b92
    refine wl_p (fun _ => o_pick_t rfl rfl) ?_
    refine wl_p (fun _ => o_move rfl) ?_
    refine wl_p (fun _ => o_move rfl) ?_
    refine wl_p (fun _ => o_eq rfl rfl) ?_
    refine wl_p (fun _ => o_pick_t rfl rfl) ?_
    refine wl_p (fun _ => o_move rfl) ?_
    refine wl_p (fun _ => o_move rfl) ?_
    refine wl_p (fun _ => o_eq rfl rfl) ?_
    refine wl_p (fun _ => o_pick_t rfl rfl) ?_
    refine wl_p (fun _ => o_move rfl) ?_
    refine wl_mkBz (8193) rfl rfl (by omega) (by rfl) (by omega) hZ ?_
    rintro A103 w103 f103 b103
    have qf103 := f103.cap
    have s103 := b103.size
    replace hw := hw.trans (b103.mono hw.size)
    replace f89 := f89.u b103
    replace f_6 := f_6.u b103
    replace f48 := f48.u b103
    replace f_4 := f_4.u b103
    replace f_2 := f_2.u b103
    replace f19 := f19.u b103
    replace f := f.u b103
    replace f22 := f22.u b103
    replace f_1 := f_1.u b103
    replace f32 := f32.u b103
    replace f31 := f31.u b103
    replace f30 := f30.u b103
    replace f_3 := f_3.u b103
    replace f40 := f40.u b103
    replace f_5 := f_5.u b103
    refine wl_p (fun _ => (o_buildg [_, _] Try.underlying31 Try.zeroValue31 (by rfl) (by rfl) rfl (by rfl) (by rfl) (fun _ => by kernel_rfl))) ?_
    refine wl_call rfl (C_CheckBad _ u1 (by omega) hZl) ?_
    rintro v105 w105 ⟨rfl, b105⟩
    have s105 := b105.size
    replace hw := hw.trans (b105.mono hw.size)
    replace f_5 := f_5.u b105
    replace f40 := f40.u b105
    replace f_3 := f_3.u b105
    replace f30 := f30.u b105
    replace f31 := f31.u b105
    replace f32 := f32.u b105
    replace f_1 := f_1.u b105
    replace f22 := f22.u b105
    replace f := f.u b105
    replace f19 := f19.u b105
    replace f_2 := f_2.u b105
    replace f_4 := f_4.u b105
    replace f48 := f48.u b105
    replace f_6 := f_6.u b105
    replace f89 := f89.u b105
    replace f103 := f103.u b105
    refine wl_p (fun _ => o_eq rfl rfl) ?_
    refine wl_p (fun _ => o_pick_t rfl rfl) ?_
    refine wl_p (fun _ => o_move rfl) ?_
    refine wl_p (fun _ => (o_buildg [_, _] Try.underlying31 Try.zeroValue31 (by rfl) (by rfl) rfl (by rfl) (by rfl) (fun _ => by kernel_rfl))) ?_
    refine wl_call rfl (C_SizeZ _ u0 (by rfl) (by simp) (Rd.nil_)) ?_
    rintro v110 w110 ⟨rfl, b110⟩
    have s110 := b110.size
    replace hw := hw.trans (b110.mono hw.size)
    replace f103 := f103.u b110
    replace f89 := f89.u b110
    replace f_6 := f_6.u b110
    replace f48 := f48.u b110
    replace f_4 := f_4.u b110
    replace f_2 := f_2.u b110
    replace f19 := f19.u b110
    replace f := f.u b110
    replace f22 := f22.u b110
    replace f_1 := f_1.u b110
    replace f32 := f32.u b110
    replace f31 := f31.u b110
    replace f30 := f30.u b110
    replace f_3 := f_3.u b110
    replace f40 := f40.u b110
    replace f_5 := f_5.u b110
    refine wl_p (fun _ => o_eq rfl rfl) ?_
    refine wl_p (fun _ => o_pick_t rfl rfl) ?_
    refine wl_p (fun _ => o_move rfl) ?_
    refine wl_r (o_loadag Try.isAgg31 Try.sizeOf31 rfl f_2 (by rfl)) ?_
    refine wl_r (o_loadag Try.isAgg31 Try.sizeOf31 rfl f_2 (by rfl)) ?_
    refine wl_call rfl (C_SameZ _ (by rfl) (by rfl) f32.to_Rd f32.to_Rd (by rfl) (by rfl)) ?_
    rintro v116 w116 ⟨rfl, b116⟩
    have s116 := b116.size
    replace hw := hw.trans (b116.mono hw.size)
    replace f_5 := f_5.u b116
    replace f40 := f40.u b116
    replace f_3 := f_3.u b116
    replace f30 := f30.u b116
    replace f31 := f31.u b116
    replace f32 := f32.u b116
    replace f_1 := f_1.u b116
    replace f22 := f22.u b116
    replace f := f.u b116
    replace f19 := f19.u b116
    replace f_2 := f_2.u b116
    replace f_4 := f_4.u b116
    replace f48 := f48.u b116
    replace f_6 := f_6.u b116
    replace f89 := f89.u b116
    replace f103 := f103.u b116
    refine wl_p (fun _ => o_pick_t rfl rfl) ?_
    refine wl_p (fun _ => o_move rfl) ?_
    refine wl_p (fun _ => o_pick_t rfl rfl) ?_
    refine wl_p (fun _ => o_assign rfl) ?_
    refine wl_nil ?_
    refine ret1 rfl rfl ?_
    exact ⟨rfl, hw⟩
end Go.Proofs.Ytpjedpmbninfcaa
