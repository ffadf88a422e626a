/-
  The statement OpsFolds: its walk.
-/
import Derived.Test.YtahkeoegbjopfaaGreatMg11
namespace Go.Proofs.YtahkeoegbjopfaaGreat
set_option maxRecDepth 100000
open Go.RowKit
def BkAt (w : World) (A : Option Addr) (j : Nat) (u : Ky) (M : List Value) (N : Option Addr) (nc : Nat) (D : Option Addr) (n c : Nat) (G : List Value) : Prop := ∃ cs, cs = bkC u M N nc D n c G ∧ CellsAt w A (j * 131) cs
section
variable {w w' : World} {A N0 D : Option Addr} {j nc n c : Nat} {uu : Ky} {M G : List Value}
theorem BkAt.u (h : BkAt w A j uu M N0 nc D n c G) (hb : Below w.heap.size w w') : BkAt w' A j uu M N0 nc D n c G := by obtain ⟨cs, h1, h2⟩ := h; exact ⟨cs, h1, h2.u hb⟩
theorem BkAt.d (h : BkAt w A j uu M N0 nc D n c G) : BkAt w.drew A j uu M N0 nc D n c G := h.u (below_drew w)
end
theorem o_ldBkAt {N : Nat} {fr : Fr} {w w0 : World} {ty : TypeId} {x : Operand} {A N0 D : Option Addr} {j nc n c : Nat} {u : Ky} {M G : List Value} (hx : fr.ev x = some (.pointer (some (adr A (j * 131))))) (h : BkAt w0 A j u M N0 nc D n c G) (hS : BkS M G) (hb : Below w0.heap.size w0 w) : OpV Tryz.prog N fr w (.load 49 x) ty (.agg (bkC u M N0 nc D n c G).toArray) w := by
 obtain ⟨cs, rfl, h⟩ := h
 exact o_loadn (cs := bkC u M N0 nc D n c G) Tryz.isAgg49 (by rw [bkC_length hS]; exact Tryz.sizeOf49) hx (fun i v hv => by rw [adr_add]; exact (h.u hb) i v hv)
set_option maxHeartbeats 16000000 in
set_option maxRecDepth 100000 in
theorem C_OpsFolds {A B C A0 : Option Addr} {I : List (By × By)} {X Y : List Ky} {D : List Ded} {c d e c0 : Nat} (w : World) (hA : RI w A I) (hB : RKs w B X) (hC : RKs w C Y) (hD : RDe w A0 D) (hc : D.length ≤ c0) (hm : c0 ≤ maxLen) :
  CallsR Tryz.prog 4 [.agg #[.slice A I.length c, .slice B X.length d, .slice C Y.length e], .slice A0 D.length c0] w fun v w' => v = .bool true ∧ Below w.heap.size w w' := by
 have hmx : maxLen = 9223372036854775807 := rfl
 refine callsR Tryz.func4 rfl rfl (by kernel_rfl) rfl ?_
 have hw := Below.refl w.heap.size w
 by_cases g0 : LtS I X Y 24
 rotate_left
 ·refine rk_seq ?_
  refine rk_region ?_
  refine wl_boxg [_, _, _] rfl (by rfl) ?_
  rintro g2 w2 f2 b2 i2 i2_1
  have s2 := b2.size
  replace hw := hw.trans (b2.mono hw.size)
  refine wl_p (fun _ => o_assign rfl) ?_
  refine wl_nil ?_
  refine rk_seq ?_
  refine rk_seq ?_
  refine rk_region ?_
  refine wl_call rfl (C_lives22 _) ?_
  rintro v9 w9 ⟨rfl, b9⟩
  have s9 := b9.size
  replace hw := hw.trans (b9.mono hw.size)
  replace f2 := f2.u b9
  refine wl_p (fun _ => o_not rfl) ?_
  refine wl_nil ?_
  refine rk_false rfl ?_
  refine rk_skip ?_
  refine rk_seq ?_
  refine rk_seq ?_
  refine rk_region ?_
  refine wl_r (o_loadag Tryz.isAgg31 Tryz.sizeOf31 rfl f2 (by rfl)) ?_
  refine wl_call rfl (C_lightStateN _ g0 (hA.u hw) rfl rfl rfl (by rfl) (by omega)) ?_
  rintro v12 w12 ⟨rfl, b12⟩
  have s12 := b12.size
  replace hw := hw.trans (b12.mono hw.size)
  replace f2 := f2.u b12
  refine wl_p (fun _ => o_not rfl) ?_
  refine wl_p (fun _ => o_move rfl) ?_
  refine wl_off ?_
  refine wl_off ?_
  refine wl_off ?_
  refine wl_p (fun _ => o_pick_t rfl rfl) ?_
  refine wl_nil ?_
  refine rk_true rfl ?_
  refine rk_seq ?_
  refine rk_region ?_
  refine wl_p (fun _ => o_assign rfl) ?_
  refine wl_nil ?_
  refine ret1 rfl rfl ?_
  exact ⟨rfl, hw⟩
 by_cases g1 : LtD D
 rotate_left
 ·refine rk_seq ?_
  refine rk_region ?_
  refine wl_boxg [_, _, _] rfl (by rfl) ?_
  rintro g2 w2 f2 b2 i2 i2_1
  have s2 := b2.size
  replace hw := hw.trans (b2.mono hw.size)
  refine wl_p (fun _ => o_assign rfl) ?_
  refine wl_nil ?_
  refine rk_seq ?_
  refine rk_seq ?_
  refine rk_region ?_
  refine wl_call rfl (C_lives22 _) ?_
  rintro v9 w9 ⟨rfl, b9⟩
  have s9 := b9.size
  replace hw := hw.trans (b9.mono hw.size)
  replace f2 := f2.u b9
  refine wl_p (fun _ => o_not rfl) ?_
  refine wl_nil ?_
  refine rk_false rfl ?_
  refine rk_skip ?_
  refine rk_seq ?_
  refine rk_seq ?_
  refine rk_region ?_
  refine wl_r (o_loadag Tryz.isAgg31 Tryz.sizeOf31 rfl f2 (by rfl)) ?_
  refine wl_call rfl (C_lightStateY _ g0 (hA.u hw) rfl rfl rfl (by rfl) (by omega)) ?_
  rintro v12 w12 ⟨rfl, b12⟩
  have s12 := b12.size
  replace hw := hw.trans (b12.mono hw.size)
  replace f2 := f2.u b12
  refine wl_p (fun _ => o_not rfl) ?_
  refine wl_p (fun _ => o_move rfl) ?_
  refine wl_p (fun _ => o_move rfl) ?_
  refine wl_call rfl (C_light22N _ (hD.u hw) rfl (by omega) (by omega)) ?_
  rintro v16 w16 ⟨rfl, b16⟩
  have s16 := b16.size
  replace hw := hw.trans (b16.mono hw.size)
  replace f2 := f2.u b16
  refine wl_p (fun _ => o_not rfl) ?_
  refine wl_p (fun _ => o_pick_f rfl rfl) ?_
  refine wl_nil ?_
  refine rk_true rfl ?_
  refine rk_seq ?_
  refine rk_region ?_
  refine wl_p (fun _ => o_assign rfl) ?_
  refine wl_nil ?_
  refine ret1 rfl rfl ?_
  exact ⟨rfl, hw⟩
 obtain ⟨b1, b2, b3, b4⟩ := g0
 have hL0 : LtI I := fun x hx => by have := b4 x hx; omega
 have hsm : SmS (I, X, Y) := ⟨by dsimp only; omega, by dsimp only; omega, by dsimp only; omega, hL0⟩
 have g0 : LtS I X Y 24 := ⟨b1, b2, b3, b4⟩
 have hd24 := g1.1
 obtain ⟨L, hL⟩ : ∃ L, D.map blkOf = L := ⟨_, rfl⟩
 have hLl : L.length ≤ 24 := by rw [← hL, List.length_map]; exact hd24
 have hLB : LtB L := by rw [← hL]; exact blkOf_lt D
 refine rk_seq ?_
 refine rk_region ?_
 refine wl_boxg [_, _, _] rfl (by rfl) ?_
 rintro g2 w2 f2 b2_1 i2 i2_1
 have s2 := b2_1.size
 replace hw := hw.trans (b2_1.mono hw.size)
 refine wl_p (fun _ => o_assign rfl) ?_
 refine wl_nil ?_
 refine rk_seq ?_
 refine rk_seq ?_
 refine rk_region ?_
 refine wl_call rfl (C_lives22 _) ?_
 rintro v9 w9 ⟨rfl, b9⟩
 have s9 := b9.size
 replace hw := hw.trans (b9.mono hw.size)
 replace f2 := f2.u b9
 refine wl_p (fun _ => o_not rfl) ?_
 refine wl_nil ?_
 refine rk_false rfl ?_
 refine rk_skip ?_
 refine rk_seq ?_
 refine rk_seq ?_
 refine rk_region ?_
 refine wl_r (o_loadag Tryz.isAgg31 Tryz.sizeOf31 rfl f2 (by rfl)) ?_
 refine wl_call rfl (C_lightStateY _ g0 (hA.u hw) rfl rfl rfl (by rfl) (by omega)) ?_
 rintro v12 w12 ⟨rfl, b12⟩
 have s12 := b12.size
 replace hw := hw.trans (b12.mono hw.size)
 replace f2 := f2.u b12
 refine wl_p (fun _ => o_not rfl) ?_
 refine wl_p (fun _ => o_move rfl) ?_
 refine wl_p (fun _ => o_move rfl) ?_
 refine wl_call rfl (C_light22Y _ (hD.u hw) rfl (by omega) (by omega)) ?_
 rintro v16 w16 ⟨rfl, b16⟩
 have s16 := b16.size
 replace hw := hw.trans (b16.mono hw.size)
 replace f2 := f2.u b16
 refine wl_p (fun _ => o_not rfl) ?_
 refine wl_p (fun _ => o_pick_f rfl rfl) ?_
 refine wl_nil ?_
 refine rk_false rfl ?_
 refine rk_skip ?_
 refine rk_seq ?_
 refine rk_drawo (id := 5) (none) [0, 1, 0, 6, 0, 0, 59, 127] [0, 1, 0, 7, 0, 0, 63, 127] 250 50 [0, 2] [(.s, 0), (.s, 2), (.f 5 250 50, 6)] (by kernel_rfl) (by kernel_rfl) (by kernel_rfl) (by kernel_rfl) (by kernel_rfl) ?_
 dsimp only [inOrder, nthOp]
 replace hw := hw.drew
 replace f2 := f2.d
 refine wl_s (fun _ hk => (o_loadag Tryz.isAgg31 Tryz.sizeOf31 rfl (f2.u (below_of_grown_none hk)) (by rfl))) ?_
 refine wl_s (fun _ hk => (o_loadag Tryz.isAgg31 Tryz.sizeOf31 rfl (f2.u (below_of_grown_none hk)) (by rfl))) ?_
 refine wl_conc [⟨1, [], [20], [], fun vs w' lo hi => ∃ (A20 : Option Addr) (a20 : Nat) (B20 : Option Addr) (b20 : Nat) (C20 : Option Addr) (d20 : Nat), vs = [.agg #[.slice A20 I.length a20, .slice B20 X.length b20, .slice C20 Y.length d20]] ∧ RIT w' A20 I ∧ RKT w' B20 X ∧ RKT w' C20 Y⟩, ⟨3, [], [22], [0], fun vs w' lo hi => ∃ (A22 : Option Addr) (a22 : Nat) (B22 : Option Addr) (b22 : Nat) (C22 : Option Addr) (d22 : Nat), vs = [.agg #[.slice A22 I.length a22, .slice B22 X.length b22, .slice C22 Y.length d22]] ∧ RIT w' A22 I ∧ RKT w' B22 X ∧ RKT w' C22 Y⟩, ⟨4, [], [5], [], fun vs w' lo hi => ∃ (g5 : Nat), vs = [.pointer (some ⟨g5, 0, none⟩)] ∧ Blk w' g5 31 [.slice none 0 0, .slice none 0 0, .slice none 0 0] ∧ lo ≤ g5 ∧ g5 < hi⟩, ⟨5, [], [6], [], fun vs w' lo hi => ∃ (g6 : Nat), vs = [.pointer (some ⟨g6, 0, none⟩)] ∧ Blk w' g6 31 [.slice none 0 0, .slice none 0 0, .slice none 0 0] ∧ lo ≤ g6 ∧ g6 < hi⟩] [0, 1, 2, 3] [0, 1, 0, 6, 0, 0, 59, 127] [0, 1, 0, 7, 0, 0, 63, 127] [6, 7] [(.l, 6), (.l, 7)] (by kernel_rfl) (by kernel_rfl) (by kernel_rfl) (by kernel_rfl) ⟨fun _ _ _ _ _ h hb => by obtain ⟨A20, a20, B20, b20, C20, d20, e0, g0, g1, g2⟩ := h; exact ⟨A20, a20, B20, b20, C20, d20, e0, g0.u hb, g1.u hb, g2.u hb⟩, fun _ _ _ _ _ h hb => by obtain ⟨A22, a22, B22, b22, C22, d22, e0, g0, g1, g2⟩ := h; exact ⟨A22, a22, B22, b22, C22, d22, e0, g0.u hb, g1.u hb, g2.u hb⟩, fun _ _ _ _ _ h hb => by obtain ⟨g5, e0, g0, g1, g2⟩ := h; exact ⟨g5, e0, g0.u hb, g1, g2⟩, fun _ _ _ _ _ h hb => by obtain ⟨g6, e0, g0, g1, g2⟩ := h; exact ⟨g6, e0, g0.u hb, g1, g2⟩, trivial⟩ ⟨?_, ?_, ?_, ?_, trivial⟩ ?_
 ·intro wI hbI fo T T2 n2
  intro hk
  dsimp only [Item.idx, inOrder, nthOp, List.map, List.zip_cons_cons, List.zip_nil_right, List.cons_append, List.nil_append]
  have shbI := hbI.size
  simp only [drew_size] at shbI
  replace hw := hw.trans (hbI.mono hw.size)
  replace f2 := f2.u hbI
  have hw1 := Below.refl wI.heap.size wI
  refine wl_call rfl (C_kOwnState _ (hA.u hw) (hB.u hw) (hC.u hw) rfl rfl rfl (by omega) (by omega) (by omega) (by omega)) ?_ (hq := .inr fun _ _ h => grown_of_below h.choose_spec.choose_spec.choose_spec.choose_spec.choose_spec.choose_spec.2.2.2.2 _)
  rintro v20 w20 ⟨A20, ⟨c20, ⟨B20, ⟨d20, ⟨C20, ⟨e20, ⟨rfl, ⟨f20, ⟨f20_1, ⟨f20_2, b20⟩⟩⟩⟩⟩⟩⟩⟩⟩⟩
  have qf20 := f20.cap
  have qf20_1 := f20_1.cap
  have qf20_2 := f20_2.cap
  have s20 := b20.size
  replace hw := hw.trans (b20.mono hw.size)
  replace hw1 := hw1.trans (b20.mono hw1.size)
  replace f2 := f2.u b20
  exact hk [_] _ ⟨_, _, _, _, _, _, rfl, f20.to_RIT, f20_1.to_RKT, f20_2.to_RKT⟩ hw1
 ·intro wI hbI fo T T2 n2
  rintro _ lo0 hi0 ⟨A20, a20, B20, b20, C20, d20, rfl, f20, f20_1, f20_2⟩ ql0 qm0 qh0 -
  try dsimp only at ql0 qm0 qh0 
  try simp only [drew_size] at ql0 qm0 qh0 
  intro hk
  dsimp only [Item.idx, inOrder, nthOp, List.map, List.zip_cons_cons, List.zip_nil_right, List.cons_append, List.nil_append]
  have shbI := hbI.size
  simp only [drew_size] at shbI
  replace hw := hw.trans (hbI.mono hw.size)
  replace f2 := f2.u hbI
  have hw1 := Below.refl wI.heap.size wI
  refine wl_call rfl (C_r22Copy _ (hA.u hw) (hB.u hw) (hC.u hw) rfl rfl rfl (by omega) (by omega) (by omega) (by omega)) ?_
  rintro v22 w22 ⟨A22, ⟨c22, ⟨B22, ⟨d22, ⟨C22, ⟨e22, ⟨rfl, ⟨f22, ⟨f22_1, ⟨f22_2, ⟨i22, ⟨i22_1, b22⟩⟩⟩⟩⟩⟩⟩⟩⟩⟩⟩⟩
  have qf22 := f22.cap
  have s22 := b22.size
  replace hw := hw.trans (b22.mono hw.size)
  replace hw1 := hw1.trans (b22.mono hw1.size)
  replace f2 := f2.u b22
  replace f20_2 := f20_2.u b22
  replace f20_1 := f20_1.u b22
  replace f20 := f20.u b22
  exact hk [_] _ ⟨_, _, _, _, _, _, rfl, f22.to_RIT, f22_1, f22_2⟩ hw1
 ·intro wI hbI fo T T2 n2
  intro hk
  dsimp only [Item.idx, inOrder, nthOp, List.map, List.zip_cons_cons, List.zip_nil_right, List.cons_append, List.nil_append]
  have shbI := hbI.size
  simp only [drew_size] at shbI
  replace hw := hw.trans (hbI.mono hw.size)
  replace f2 := f2.u hbI
  have hw1 := Below.refl wI.heap.size wI
  refine wl_allocg [_, _, _] Tryz.zeroValue31 (by rfl) ?_
  rintro g5 w5 f5 b5 i5 i5_1
  have s5 := b5.size
  replace hw := hw.trans (b5.mono hw.size)
  replace hw1 := hw1.trans (b5.mono hw1.size)
  replace f2 := f2.u b5
  exact hk [_] _ ⟨_, rfl, f5, by omega, by omega⟩ hw1
 ·intro wI hbI fo T T2 n2
  intro hk
  dsimp only [Item.idx, inOrder, nthOp, List.map, List.zip_cons_cons, List.zip_nil_right, List.cons_append, List.nil_append]
  have shbI := hbI.size
  simp only [drew_size] at shbI
  replace hw := hw.trans (hbI.mono hw.size)
  replace f2 := f2.u hbI
  have hw1 := Below.refl wI.heap.size wI
  refine wl_allocg [_, _, _] Tryz.zeroValue31 (by rfl) ?_
  rintro g6 w6 f6 b6 i6 i6_1
  have s6 := b6.size
  replace hw := hw.trans (b6.mono hw.size)
  replace hw1 := hw1.trans (b6.mono hw1.size)
  replace f2 := f2.u b6
  exact hk [_] _ ⟨_, rfl, f6, by omega, by omega⟩ hw1
 intro wE hbE
 rintro _ lo0 hi0 ⟨A20, a20, B20, b20, C20, d20, rfl, f20, f20_1, f20_2⟩ ql0 qm0 qh0 -
 rintro _ lo1 hi1 ⟨A22, a22, B22, b22, C22, d22, rfl, f22, f22_1, f22_2⟩ ql1 qm1 qh1 ⟨qa1_0, -⟩
 rintro _ lo2 hi2 ⟨g5, rfl, f5, f5_1, f5_2⟩ ql2 qm2 qh2 ⟨qa2_1, qa2_0, -⟩
 rintro _ lo3 hi3 ⟨g6, rfl, f6, f6_1, f6_2⟩ ql3 qm3 qh3 ⟨qa3_2, qa3_1, qa3_0, -⟩
 try dsimp only at ql0 qm0 qh0  ql1 qm1 qh1 qa1_0 ql2 qm2 qh2 qa2_0 qa2_1 ql3 qm3 qh3 qa3_0 qa3_1 qa3_2
 try simp only [drew_size] at ql0 qm0 qh0  ql1 qm1 qh1 qa1_0 ql2 qm2 qh2 qa2_0 qa2_1 ql3 qm3 qh3 qa3_0 qa3_1 qa3_2
 dsimp only [given, Item.idx, inOrder, nthOp, List.map, List.zip_cons_cons, List.zip_nil_right]
 have shbE := hbE.size
 simp only [drew_size] at shbE
 replace hw := hw.trans (hbE.mono hw.size)
 replace f2 := f2.u hbE
 refine wl_storega Tryz.sizeOf31 rfl rfl (by rfl) (oneCell_of (by rfl)) f5 (by rfl) ?_
 rintro w_1 f g e_1
 have s := g.size
 replace hw := hw.trans (below_of_grownBy g.g hw.size (by omega))
 replace f2 := f2.k g.g (ap_some (by omega))
 replace f6 := f6.k g.g (ap_some (by omega))
 replace f22_2 := f22_2.y g (by decide)
 replace f22_1 := f22_1.y g (by decide)
 replace f22 := f22.y g (by decide)
 replace f20_2 := f20_2.y g (by decide)
 replace f20_1 := f20_1.y g (by decide)
 replace f20 := f20.y g (by decide)
 clear f5
 refine wl_storega Tryz.sizeOf31 rfl rfl (by rfl) (oneCell_of (by rfl)) f6 (by rfl) ?_
 rintro w_2 f_1 g_1 e_2
 have s_1 := g_1.size
 replace hw := hw.trans (below_of_grownBy g_1.g hw.size (by omega))
 replace f20 := f20.y g_1 (by decide)
 replace f20_1 := f20_1.y g_1 (by decide)
 replace f20_2 := f20_2.y g_1 (by decide)
 replace f22 := f22.y g_1 (by decide)
 replace f22_1 := f22_1.y g_1 (by decide)
 replace f22_2 := f22_2.y g_1 (by decide)
 replace f2 := f2.k g_1.g (ap_some (by omega))
 replace f := f.k g_1.g (ap_some (by omega))
 clear f6
 refine wl_nild ?_
 refine rk_seq ?_
 refine rk_region ?_
 refine wl_p (fun _ => o_move rfl) ?_
 refine wl_call rfl (C_blocks22R _ hL (hD.u hw) rfl (by omega)) ?_
 rintro v24 w24 ⟨A24, ⟨c24, ⟨rfl, ⟨f24, b24⟩⟩⟩⟩
 have qf24 := f24.cap
 have s24 := b24.size
 replace hw := hw.trans (b24.mono hw.size)
 replace f := f.u b24
 replace f2 := f2.u b24
 replace f22_2 := f22_2.u b24
 replace f22_1 := f22_1.u b24
 replace f22 := f22.u b24
 replace f20_2 := f20_2.u b24
 replace f20_1 := f20_1.u b24
 replace f20 := f20.u b24
 replace f_1 := f_1.u b24
 refine wl_p (fun _ => o_assign rfl) ?_
 refine wl_nil ?_
 refine rk_seq ?_
 refine rk_seq ?_
 refine rk_region ?_
 refine wl_p (fun _ => o_assign rfl) ?_
 refine wl_nil ?_
 refine rk_block ?_
 have hg56 : g5 ≠ g6 := by omega
 have hg52 : g2 ≠ g5 := by have := f2.lt; omega
 have hg62 : g2 ≠ g6 := by have := f2.lt; omega
 refine rk_joinf (fun fb fr W => ∃ (I1 : List (By × By)) (X1 Y1 : List Ky) (Am Bm Cm An Bn Cn : Option Addr) (am bm cm an bn cn : Nat), fr = [] ++ fb.drop 1 ∧ foldX (I, X, Y) L = (I1, X1, Y1) ∧ (Blk W g5 31 [.slice Am I1.length am, .slice Bm X1.length bm, .slice Cm Y1.length cm] ∧ Blk W g6 31 [.slice An I1.length an, .slice Bn X1.length bn, .slice Cn Y1.length cn]) ∧ (RIT W Am I1 ∧ RKT W Bm X1 ∧ RKT W Cm Y1) ∧ (RIT W An I1 ∧ RKT W Bn X1 ∧ RKT W Cn Y1) ∧ OwnB W w_2.heap.size w24.heap.size A24 c24 L ∧ Blk W g2 31 [.slice A I.length c, .slice B X.length d, .slice C Y.length e] ∧ w24.heap.size ≤ W.heap.size ∧ Below w.heap.size w W) ?_ (fun ks hj => ?_)
 rotate_left
 ·refine rk_loopf (fun fb k fr W => ∃ (i : Nat) (v : Int) (I1 : List (By × By)) (X1 Y1 : List Ky) (Am Bm Cm An Bn Cn : Option Addr) (am bm cm an bn cn : Nat), fr = [(8, .int .i64 v)] ++ fb.drop 1 ∧ v = i ∧ i ≤ L.length ∧ k = L.length - i ∧ foldX (I, X, Y) (L.take i) = (I1, X1, Y1) ∧ (Blk W g5 31 [.slice Am I1.length am, .slice Bm X1.length bm, .slice Cm Y1.length cm] ∧ Blk W g6 31 [.slice An I1.length an, .slice Bn X1.length bn, .slice Cn Y1.length cn]) ∧ (RIT W Am I1 ∧ RKT W Bm X1 ∧ RKT W Cm Y1) ∧ (RIT W An I1 ∧ RKT W Bn X1 ∧ RKT W Cn Y1) ∧ OwnB W w_2.heap.size w24.heap.size A24 c24 L ∧ Blk W g2 31 [.slice A I.length c, .slice B X.length d, .slice C Y.length e] ∧ w24.heap.size ≤ W.heap.size ∧ Below w.heap.size w W) (n := L.length) (Fr.le_of (by kernel_rfl) (by kernel_rfl) (by repeat' constructor)) ⟨0, _, I, X, Y, _, _, _, _, _, _, _, _, _, _, _, _, rfl, rfl, by omega, rfl, rfl, ⟨f, f_1⟩, ⟨f20, f20_1, f20_2⟩, ⟨f22, f22_1, f22_2⟩, f24, f2, Nat.le_refl _, hw⟩ ?_
  clear hw f f_1 f20 f20_1 f20_2 f22 f22_1 f22_2 f24 f2
  rintro k fr W ⟨i, v, I1, X1, Y1, Am, Bm, Cm, An, Bn, Cn, am, bm, cm, an, bn, cn, rfl, rfl, hi, rfl, hI1, ⟨f5, f6⟩, ⟨m1, m2, m3⟩, ⟨k1, k2, k3⟩, f24, f2, hsz, hw⟩
  have shw := hw.size
  have hs1 := hsm.fold (L.take i)
  rw [hI1] at hs1
  obtain ⟨z1, z2, z3, z4⟩ := hs1
  have hs1 : SmS (I1, X1, Y1) := ⟨z1, z2, z3, z4⟩
  dsimp only at z1 z2 z3 z4
  first | refine rk_frame (by simp only [List.cons_append, List.nil_append, List.drop_succ_cons, List.drop_zero]; rfl) ?_ | refine wl_frame (by simp only [List.cons_append, List.nil_append, List.drop_succ_cons, List.drop_zero]; rfl) ?_
  by_cases hil : i < L.length
  ·have n1 := hLB _ (List.getElem_mem hil)
   obtain ⟨⟨I2, X2, Y2⟩, hI2⟩ : ∃ r, opsX (I1, X1, Y1) L[i].1 (readO L[i].2).1 = r := ⟨_, rfl⟩
   have e1 : ApplyR I1 X1 Y1 L[i].1 L[i].2 I2 X2 Y2 := ⟨hI2⟩
   have hs2 := hs1.ops L[i].1 (readO L[i].2).1
   rw [hI2] at hs2
   obtain ⟨y1, y2, y3, y4⟩ := hs2
   dsimp only at y1 y2 y3 y4
   have hnx : foldX (I, X, Y) (L.take (i + 1)) = (I2, X2, Y2) := by rw [List.take_succ_eq_append_getElem hil, foldX_snoc, hI1, hI2]
   obtain ⟨Mb, Nb, ncb, Db, cb, Gb, hcl, hSb, hDb, hlb, hmb⟩ := f24.to_RBk.elem hil
   have hBk : BkAt W A24 i L[i].1 Mb Nb ncb Db L[i].2.length cb Gb := ⟨_, rfl, hcl⟩
   clear hcl
   refine rk_seq ?_
   refine rk_seq ?_
   refine rk_region ?_
   refine wl_p (fun _ => o_move rfl) ?_
   refine wl_p (fun _ => o_move rfl) ?_
   refine wl_p (fun _ => o_len (t := 25) Tryz.underlying25 rfl) ?_
   refine wl_p (fun _ => o_lt rfl rfl) ?_
   refine wl_nil ?_
   refine rk_if rfl (fun h28 => ?_) (fun h28 => h28.elim (by omega))
   refine rk_skip ?_
   refine rk_seq ?_
   refine rk_block ?_
   refine rk_seq ?_
   refine rk_drawo (id := 10) (none) [0, 0, 0, 6, 8, 16, 33, 0, 0, 0, 768, 1024, 2240, 4223, 16383] [0, 0, 0, 6, 14, 30, 63, 0, 0, 0, 768, 1792, 4095, 8191, 16383] 28768 96 [0, 1, 2, 3, 4, 7, 8, 9, 10, 11, 5, 6, 12, 13, 14] [(.s, 0), (.p, 1), (.p, 2), (.p, 3), (.r, 4), (.s, 7), (.p, 8), (.p, 9), (.p, 10), (.s, 11), (.c, 5), (.c, 6), (.l, 12), (.l, 13), (.l, 14)] (by kernel_rfl) (by kernel_rfl) (by kernel_rfl) (by kernel_rfl) (by kernel_rfl) ?_
   dsimp only [inOrder, nthOp]
   replace hw := hw.drew
   replace hBk := hBk.d
   replace hDb := hDb.d
   replace f2 := f2.d
   replace f24 := f24.d
   replace k3 := k3.d
   replace k2 := k2.d
   replace k1 := k1.d
   replace m3 := m3.d
   replace m2 := m2.d
   replace m1 := m1.d
   replace f6 := f6.d
   replace f5 := f5.d
   refine wl_s (fun _ hk => (o_loadag Tryz.isAgg31 Tryz.sizeOf31 rfl (f5.u (below_of_grown_none hk)) (by rfl))) ?_
   refine wl_p (fun _ => o_move rfl) ?_
   refine wl_p (fun _ => o_move rfl) ?_
   refine wl_p (fun _ => (o_iaddrA (i) Tryz.underlying25 Tryz.sizeOf49 rfl rfl rfl (f24.some_ (by omega)) (by omega))) ?_
   refine wl_r (o_ldBkAt rfl hBk (by omega) (Below.refl _ _)) ?_
   refine wl_s (fun _ hk => (o_loadag Tryz.isAgg31 Tryz.sizeOf31 rfl (f6.u (below_of_grown_none hk)) (by rfl))) ?_
   refine wl_p (fun _ => o_move rfl) ?_
   refine wl_p (fun _ => o_move rfl) ?_
   refine wl_p (fun _ => (o_iaddrA (i) Tryz.underlying25 Tryz.sizeOf49 rfl rfl rfl (f24.some_ (by omega)) (by omega))) ?_
   refine wl_s (fun _ hk => (o_ldBkAt rfl hBk hSb (below_of_grown_none hk))) ?_
   refine wl_call rfl (C_kOwnBlock _ (by omega) hDb rfl (by omega)) ?_ (hq := .inr fun _ _ h => grown_of_below h.choose_spec.choose_spec.choose_spec.choose_spec.2.2 _)
   rintro v36 w36 ⟨N36, ⟨nc36, ⟨D36, ⟨c36, ⟨rfl, ⟨f36, b36⟩⟩⟩⟩⟩⟩
   simp only [drew_size] at f36
   simp only [drew_size] at b36
   have qf36 := f36.cap
   have s36 := b36.size
   simp only [drew_size] at s36
   replace hw := hw.trans (b36.mono hw.size)
   replace f5 := f5.u b36
   replace f6 := f6.u b36
   replace m1 := m1.u b36
   replace m2 := m2.u b36
   replace m3 := m3.u b36
   replace k1 := k1.u b36
   replace k2 := k2.u b36
   replace k3 := k3.u b36
   replace f24 := f24.u b36
   replace f2 := f2.u b36
   replace hDb := hDb.u b36
   replace hBk := hBk.u b36
   have m36 := own_max f36
   refine wl_call rfl (C_applyX _ (by omega) e1 m1.to_RI m2.to_RKs m3.to_RKs f36.to_RdT rfl (by omega) (by omega) rfl rfl rfl (by omega) (by omega)) ?_ (hq := .inr fun _ _ h => grown_of_below h.choose_spec.choose_spec.choose_spec.choose_spec.choose_spec.choose_spec.2.2.2.2 _)
   rintro v37 w37 ⟨A37, ⟨c37, ⟨B37, ⟨d37, ⟨C37, ⟨e37, ⟨rfl, ⟨f37, ⟨f37_1, ⟨f37_2, b37⟩⟩⟩⟩⟩⟩⟩⟩⟩⟩
   have qf37 := f37.cap
   have qf37_1 := f37_1.cap
   have qf37_2 := f37_2.cap
   have s37 := b37.size
   replace hw := hw.trans (b37.mono hw.size)
   replace hBk := hBk.u b37
   replace hDb := hDb.u b37
   replace f2 := f2.u b37
   replace f24 := f24.u b37
   replace k3 := k3.u b37
   replace k2 := k2.u b37
   replace k1 := k1.u b37
   replace m3 := m3.u b37
   replace m2 := m2.u b37
   replace m1 := m1.u b37
   replace f6 := f6.u b37
   replace f5 := f5.u b37
   replace f36 := f36.u b37
   refine wl_call rfl (C_r22Apply _ (by omega) e1 k1 k2 k3 hDb rfl rfl rfl rfl (by omega) (by omega)) ?_
   rintro v43 w43 ⟨A43, ⟨c43, ⟨B43, ⟨d43, ⟨C43, ⟨e43, ⟨rfl, ⟨f43, ⟨f43_1, ⟨f43_2, b43⟩⟩⟩⟩⟩⟩⟩⟩⟩⟩
   have s43 := b43.size
   replace hw := hw.trans (b43.mono hw.size)
   replace f36 := f36.u b43
   replace f5 := f5.u b43
   replace f6 := f6.u b43
   replace m1 := m1.u b43
   replace m2 := m2.u b43
   replace m3 := m3.u b43
   replace k1 := k1.u b43
   replace k2 := k2.u b43
   replace k3 := k3.u b43
   replace f24 := f24.u b43
   replace f2 := f2.u b43
   replace hDb := hDb.u b43
   replace hBk := hBk.u b43
   replace f37_2 := f37_2.u b43
   replace f37_1 := f37_1.u b43
   replace f37 := f37.u b43
   refine wl_storega Tryz.sizeOf31 rfl rfl (by rfl) (oneCell_of (by rfl)) f5 (by rfl) ?_
   rintro w_3 f g_2 e_3
   have s_2 := g_2.size
   replace hw := hw.trans (below_of_grownBy g_2.g hw.size (by omega))
   replace f37 := f37.y g_2 (by decide)
   replace f37_1 := f37_1.y g_2 (by decide)
   replace f37_2 := f37_2.y g_2 (by decide)
   replace f2 := f2.k g_2.g (ap_some (by omega))
   replace f24 := f24.y g_2 (by decide)
   replace k3 := k3.y g_2 (by decide)
   replace k2 := k2.y g_2 (by decide)
   replace k1 := k1.y g_2 (by decide)
   replace m3 := m3.y g_2 (by decide)
   replace m2 := m2.y g_2 (by decide)
   replace m1 := m1.y g_2 (by decide)
   replace f6 := f6.k g_2.g (ap_some (by omega))
   replace f36 := f36.k g_2.g (ap_some (by omega))
   replace f43_2 := f43_2.y g_2 (by decide)
   replace f43_1 := f43_1.y g_2 (by decide)
   replace f43 := f43.y g_2 (by decide)
   clear hBk
   clear hDb
   clear f5
   refine wl_storega Tryz.sizeOf31 rfl rfl (by rfl) (oneCell_of (by rfl)) f6 (by rfl) ?_
   rintro w_4 f_1 g_3 e_4
   have s_3 := g_3.size
   replace hw := hw.trans (below_of_grownBy g_3.g hw.size (by omega))
   replace f43 := f43.y g_3 (by decide)
   replace f43_1 := f43_1.y g_3 (by decide)
   replace f43_2 := f43_2.y g_3 (by decide)
   replace f36 := f36.k g_3.g (ap_some (by omega))
   replace m1 := m1.y g_3 (by decide)
   replace m2 := m2.y g_3 (by decide)
   replace m3 := m3.y g_3 (by decide)
   replace k1 := k1.y g_3 (by decide)
   replace k2 := k2.y g_3 (by decide)
   replace k3 := k3.y g_3 (by decide)
   replace f24 := f24.y g_3 (by decide)
   replace f2 := f2.k g_3.g (ap_some (by omega))
   replace f37_2 := f37_2.y g_3 (by decide)
   replace f37_1 := f37_1.y g_3 (by decide)
   replace f37 := f37.y g_3 (by decide)
   replace f := f.k g_3.g (ap_some (by omega))
   clear f6
   refine wl_nild ?_
   refine rk_seq ?_
   refine rk_region ?_
   refine wl_r (o_loadag Tryz.isAgg31 Tryz.sizeOf31 rfl f (by rfl)) ?_
   refine wl_r (o_loadag Tryz.isAgg31 Tryz.sizeOf31 rfl f_1 (by rfl)) ?_
   refine wl_call rfl (C_kState _ f37.to_RI f37_1.to_RKs f37_2.to_RKs f43.to_RI f43_1.to_RKs f43_2.to_RKs rfl rfl rfl rfl rfl rfl (by omega) (by omega) (by omega) (by omega) (by omega) (by omega)) ?_
   rintro v46 w46 ⟨rfl, b46⟩
   have s46 := b46.size
   replace hw := hw.trans (b46.mono hw.size)
   replace f := f.u b46
   replace f37 := f37.u b46
   replace f37_1 := f37_1.u b46
   replace f37_2 := f37_2.u b46
   replace f2 := f2.u b46
   replace f24 := f24.u b46
   replace k3 := k3.u b46
   replace k2 := k2.u b46
   replace k1 := k1.u b46
   replace m3 := m3.u b46
   replace m2 := m2.u b46
   replace m1 := m1.u b46
   replace f36 := f36.u b46
   replace f43_2 := f43_2.u b46
   replace f43_1 := f43_1.u b46
   replace f43 := f43.u b46
   replace f_1 := f_1.u b46
   refine wl_p (fun _ => o_not rfl) ?_
   refine wl_nil ?_
   refine rk_cond rfl (fun h47 => by simp at h47) (fun h47 => ?_)
   refine rk_skip ?_
   refine rk_blk ?_
   refine rk_region ?_
   refine wl_p (fun _ => o_move rfl) ?_
   refine wl_p (fun _ => o_add rfl rfl (by omega) (by omega)) ?_
   refine wl_p (fun _ => o_assign rfl) ?_
   refine wl_nil ?_
   exact rk_againf (Fr.le_of (by kernel_rfl) (by kernel_rfl) (by repeat' constructor)) ⟨i + 1, (i : Int) + 1, I2, X2, Y2, _, _, _, _, _, _, _, _, _, _, _, _, rfl, by omega, by omega, rfl, hnx, ⟨f, f_1⟩, ⟨f37.to_RIT, f37_1.to_RKT, f37_2.to_RKT⟩, ⟨f43, f43_1, f43_2⟩, f24, f2, by omega, hw⟩ (by omega)
  ·refine rk_seq ?_
   refine rk_seq ?_
   refine rk_region ?_
   refine wl_p (fun _ => o_move rfl) ?_
   refine wl_p (fun _ => o_move rfl) ?_
   refine wl_p (fun _ => o_len (t := 25) Tryz.underlying25 rfl) ?_
   refine wl_p (fun _ => o_lt rfl rfl) ?_
   refine wl_nil ?_
   refine rk_if rfl (fun h28 => absurd h28 (by omega)) (fun h28 => ?_)
   refine rk_exit rfl ?_
   obtain rfl : i = L.length := by omega
   rw [List.take_length] at hI1
   exact rk_tof hj (Fr.le_of (by kernel_rfl) (by kernel_rfl) (by repeat' constructor)) ⟨_, _, _, _, _, _, _, _, _, _, _, _, _, _, _, rfl, hI1, ⟨f5, f6⟩, ⟨m1, m2, m3⟩, ⟨k1, k2, k3⟩, f24, f2, hsz, hw⟩
 clear hw f f_1 f20 f20_1 f20_2 f22 f22_1 f22_2 f24 f2
 rintro fr W ⟨I1, X1, Y1, Am, Bm, Cm, An, Bn, Cn, am, bm, cm, an, bn, cn, rfl, hI1, ⟨f5, f6⟩, ⟨m1, m2, m3⟩, ⟨k1, k2, k3⟩, f24, f2, hsz, hw⟩
 have shw := hw.size
 have e0 : FoldXR I X Y L I1 X1 Y1 := ⟨hI1⟩
 have hs1 := hsm.fold L
 rw [hI1] at hs1
 obtain ⟨z1, z2, z3, z4⟩ := hs1
 dsimp only at z1 z2 z3 z4
 first | refine rk_frame (by simp only [List.cons_append, List.nil_append, List.drop_succ_cons, List.drop_zero]; rfl) ?_ | refine wl_frame (by simp only [List.cons_append, List.nil_append, List.drop_succ_cons, List.drop_zero]; rfl) ?_
 refine rk_seq ?_
 refine rk_drawo (id := 13) (none) [0, 1, 0, 6, 10, 0, 48, 127] [0, 1, 0, 7, 15, 0, 63, 127] 90 26 [0, 2, 5, 1, 3, 4, 6, 7] [(.r, 0), (.p, 2), (.s, 5), (.c, 1), (.c, 3), (.c, 4), (.l, 6), (.p, 7)] (by kernel_rfl) (by kernel_rfl) (by kernel_rfl) (by kernel_rfl) (by kernel_rfl) ?_
 dsimp only [inOrder, nthOp]
 replace hw := hw.drew
 replace f2 := f2.d
 replace f24 := f24.d
 replace k3 := k3.d
 replace k2 := k2.d
 replace k1 := k1.d
 replace m3 := m3.d
 replace m2 := m2.d
 replace m1 := m1.d
 replace f6 := f6.d
 replace f5 := f5.d
 refine wl_r (o_loadag Tryz.isAgg31 Tryz.sizeOf31 rfl f2 (by rfl)) ?_
 refine wl_p (fun _ => o_move rfl) ?_
 refine wl_s (fun _ hk => (o_loadag Tryz.isAgg31 Tryz.sizeOf31 rfl (f6.u (below_of_grown_none hk)) (by rfl))) ?_
 refine wl_call rfl (C_kOwnState _ (hA.u hw) (hB.u hw) (hC.u hw) rfl rfl rfl (by omega) (by omega) (by omega) (by omega)) ?_ (hq := .inr fun _ _ h => grown_of_below h.choose_spec.choose_spec.choose_spec.choose_spec.choose_spec.choose_spec.2.2.2.2 _)
 rintro v49 w49 ⟨A49, ⟨c49, ⟨B49, ⟨d49, ⟨C49, ⟨e49, ⟨rfl, ⟨f49, ⟨f49_1, ⟨f49_2, b49⟩⟩⟩⟩⟩⟩⟩⟩⟩⟩
 simp only [drew_size] at f49
 simp only [drew_size] at f49_1
 simp only [drew_size] at f49_2
 simp only [drew_size] at b49
 have qf49 := f49.cap
 have qf49_1 := f49_1.cap
 have qf49_2 := f49_2.cap
 have s49 := b49.size
 simp only [drew_size] at s49
 replace hw := hw.trans (b49.mono hw.size)
 replace f5 := f5.u b49
 replace f6 := f6.u b49
 replace m1 := m1.u b49
 replace m2 := m2.u b49
 replace m3 := m3.u b49
 replace k1 := k1.u b49
 replace k2 := k2.u b49
 replace k3 := k3.u b49
 replace f24 := f24.u b49
 replace f2 := f2.u b49
 refine wl_call rfl (C_kOwnBlocks _ f24.to_RBk rfl (by omega) (by omega)) ?_ (hq := .inr fun _ _ h => grown_of_below h.choose_spec.choose_spec.2.2 _)
 rintro v51 w51 ⟨A51, ⟨c51, ⟨rfl, ⟨f51, b51⟩⟩⟩⟩
 have qf51 := f51.cap
 have s51 := b51.size
 replace hw := hw.trans (b51.mono hw.size)
 replace f2 := f2.u b51
 replace f24 := f24.u b51
 replace k3 := k3.u b51
 replace k2 := k2.u b51
 replace k1 := k1.u b51
 replace m3 := m3.u b51
 replace m2 := m2.u b51
 replace m1 := m1.u b51
 replace f6 := f6.u b51
 replace f5 := f5.u b51
 replace f49_2 := f49_2.u b51
 replace f49_1 := f49_1.u b51
 replace f49 := f49.u b51
 refine wl_call rfl (C_foldXN _ e0 f49.to_RI f49_1.to_RKs f49_2.to_RKs f51.to_RBk rfl rfl rfl rfl (by omega) (by omega) (by omega)) ?_ (hq := .inr fun _ _ h => grown_of_below h.choose_spec.choose_spec.choose_spec.choose_spec.choose_spec.choose_spec.2.2.2.2 _)
 rintro v52 w52 ⟨A52, ⟨c52, ⟨B52, ⟨d52, ⟨C52, ⟨e52, ⟨rfl, ⟨f52, ⟨f52_1, ⟨f52_2, b52⟩⟩⟩⟩⟩⟩⟩⟩⟩⟩
 have qf52 := f52.cap
 have qf52_1 := f52_1.cap
 have qf52_2 := f52_2.cap
 have s52 := b52.size
 replace hw := hw.trans (b52.mono hw.size)
 replace f49 := f49.u b52
 replace f49_1 := f49_1.u b52
 replace f49_2 := f49_2.u b52
 replace f5 := f5.u b52
 replace f6 := f6.u b52
 replace m1 := m1.u b52
 replace m2 := m2.u b52
 replace m3 := m3.u b52
 replace k1 := k1.u b52
 replace k2 := k2.u b52
 replace k3 := k3.u b52
 replace f24 := f24.u b52
 replace f2 := f2.u b52
 replace f51 := f51.u b52
 refine wl_call rfl (C_kState _ f52.to_RI f52_1.to_RKs f52_2.to_RKs k1.to_RI k2.to_RKs k3.to_RKs rfl rfl rfl rfl rfl rfl (by omega) (by omega) (by omega) (by omega) (by omega) (by omega)) ?_
 rintro v54 w54 ⟨rfl, b54⟩
 have s54 := b54.size
 replace hw := hw.trans (b54.mono hw.size)
 replace f51 := f51.u b54
 replace f2 := f2.u b54
 replace f24 := f24.u b54
 replace k3 := k3.u b54
 replace k2 := k2.u b54
 replace k1 := k1.u b54
 replace m3 := m3.u b54
 replace m2 := m2.u b54
 replace m1 := m1.u b54
 replace f6 := f6.u b54
 replace f5 := f5.u b54
 replace f49_2 := f49_2.u b54
 replace f49_1 := f49_1.u b54
 replace f49 := f49.u b54
 replace f52_2 := f52_2.u b54
 replace f52_1 := f52_1.u b54
 replace f52 := f52.u b54
 refine wl_p (fun _ => o_assign rfl) ?_
 refine wl_nild ?_
 rw [decide_eq_true (rfl : (I1, X1, Y1) = (I1, X1, Y1))]
 refine ret1 rfl rfl ?_
 exact ⟨rfl, hw⟩
end Go.Proofs.YtahkeoegbjopfaaGreat
/-
  Arguments of the statements on blocks: deeds, states, ops.
-/
namespace Go.Proofs.YtahkeoegbjopfaaGreat
set_option maxRecDepth 100000
open Go.RowKit
theorem opens_OpB : Opens Tryz.prog 54 gOp :=
 have hb : Opens Tryz.prog 39 gBytes := opens_bytes Tryz.underlying39 Tryz.underlying5 (by kernel_rfl) (by kernel_rfl)
 have hk : Opens Tryz.prog 42 (gArr 32) := opens_arr8 Tryz.underlying42 Tryz.underlying5 (by kernel_rfl) (by kernel_rfl)
 opens_struct Tryz.underlying54 (by kernel_rfl) (.more (opens_int Tryz.underlying3 (by kernel_rfl)) rfl (.more hb rfl (.more hb rfl (.one hk rfl))))
theorem opens_Deed : Opens Tryz.prog 75 gDeed :=
 opens_struct Tryz.underlying75 (by kernel_rfl) (.more (opens_int Tryz.underlying3 (by kernel_rfl)) rfl (.one (opens_slice Tryz.underlying35 (by kernel_rfl) (by decide) opens_OpB) rfl))
set_option maxRecDepth 100000 in
theorem arg_Deeds {H : Type} {enc : TypeId × Value → H} {W : World} {base : Nat} {v : Value} {d : DataW H} {p : List MemPlace} (hok : Value.okWide Tryz.prog W .any base 22 v) (h : DataW.Trod enc Tryz.prog W 0 (fun _ => true) true 22 v d p) :
  ∃ (A : Option Addr) (c : Nat) (L : List Ded), v = .slice A L.length c ∧ RDe W A L ∧ L.length ≤ c ∧ c ≤ maxLen := by
 obtain ⟨L, h1⟩ := open_slc (X := GoT.slice 75 gDeed) (opens_slice Tryz.underlying22 (by kernel_rfl) (by decide) opens_Deed) Tryz.underlying22 hok h
 obtain ⟨A, c, e, h2, h3, h4⟩ := slice_RSl h1
 injection e with e
 exact ⟨A, c, L, e, h2, h3, h4⟩
def gStB : GoT Stt := (GoT.slice 94 gItem).pair ((GoT.slice 42 (gArr 32)).pair (GoT.slice 42 (gArr 32)))
theorem opens_StB : Opens Tryz.prog 31 gStB :=
 have hb : Opens Tryz.prog 39 gBytes := opens_bytes Tryz.underlying39 Tryz.underlying5 (by kernel_rfl) (by kernel_rfl)
 have hI : Opens Tryz.prog 94 gItem := opens_struct Tryz.underlying94 (by kernel_rfl) (.more hb rfl (.one hb rfl))
 have hk : Opens Tryz.prog 42 (gArr 32) := opens_arr8 Tryz.underlying42 Tryz.underlying5 (by kernel_rfl) (by kernel_rfl)
 opens_struct Tryz.underlying31 (by kernel_rfl) (.more (opens_slice Tryz.underlying28 (by kernel_rfl) (by decide) hI) rfl (.more (opens_slice Tryz.underlying29 (by kernel_rfl) (by decide) hk) rfl (.one (opens_slice Tryz.underlying29 (by kernel_rfl) (by decide) hk) rfl)))
set_option maxRecDepth 100000 in
theorem arg_StateB {H : Type} {enc : TypeId × Value → H} {W : World} {base : Nat} {v : Value} {d : DataW H} {p : List MemPlace} (hok : Value.okWide Tryz.prog W .any base 31 v) (h : DataW.Trod enc Tryz.prog W 0 (fun _ => true) true 31 v d p) :
  ∃ (I : List (By × By)) (X Y : List Ky) (A : Option Addr) (c : Nat) (B : Option Addr) (d : Nat) (C : Option Addr) (e : Nat), v = .agg #[.slice A I.length c, .slice B X.length d, .slice C Y.length e] ∧ RI W A I ∧ RKs W B X ∧ RKs W C Y := by
 obtain ⟨cs, ⟨I, X, Y⟩, rfl, c1, c2, rfl, h1, c3, c4, rfl, h2, h3⟩ := open_agg opens_StB (.inl ⟨_, Tryz.underlying31⟩) hok h
 obtain ⟨A, c, rfl, hA, _⟩ := slice_RSl h1
 obtain ⟨B, d, rfl, hB, _⟩ := slice_RSl h2
 obtain ⟨C, e, rfl, hC, _⟩ := slice_RSl h3
 exact ⟨I, X, Y, A, c, B, d, C, e, rfl, hA, hB, hC⟩
end Go.Proofs.YtahkeoegbjopfaaGreat
