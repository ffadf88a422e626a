/-
  Walks of the document's curve: Mul2, Mul, Bytes.
-/
import Derived.Test.YtahkeoegbjopfaaGreatMg4
import Derived.Shelf.Small.Bits
import Derived.Shelf.Strconv.Itoa0
import Derived.Shelf.SlGeneric
import Derived.Ground.NamesProg
import Derived.Test.YtahkeoegbjopfaaGreatProg
import Derived.Lib.SlBytesConst
import Derived.Laws.Externs
import Derived.Laws.OwnMore
import Derived.RangeFuncFrom
import Derived.RangeFuncLeaves
import Derived.RangeFuncCalls
import Derived.OrdersIn
import Derived.TacticsIn
import Derived.Lib.AppendStr
namespace Go.Proofs.YtahkeoegbjopfaaGreat
set_option maxRecDepth 100000
open Go.RowKit
attribute [local irreducible] carryS openS closeS plusS minusS timesS powerS ofS shiftedS restS subS negS mulS powS invS rootS crRoot awayS nearS fplus ckS dS zeroPt mul2S baseS mlF
theorem rk_joink2 {P : Program} {fn : Func} {F : Ending → World → Prop} {N : Nat} {k : K} {ks : List K} {fr : Fr} {w : World} (R : Fr → Fr → World → Prop) (h2 : ∀ fr' w, R fr fr' w → RK P fn F N ks fr' w) (h1 : ∀ ks, (∀ fr' w, R fr fr' w → RK P fn F N ks fr' w) → RK P fn F N (k :: ks) fr w) : RK P fn F N (k :: ks) fr w := h1 ks h2
theorem ne_parts {a b lo hi lo' hi' : Nat} (h1 : lo ≤ a) (h2 : a < hi) (h3 : lo' ≤ b) (h4 : b < hi') (h : hi ≤ lo' ∨ hi' ≤ lo) : a ≠ b := by omega
set_option maxRecDepth 100000 in
set_option maxHeartbeats 4000000 in
theorem C_f5Mul2 {a b : N32} {p q : Pt} {r : Pt} (w : World) (hr : mul2S a p b q = r) :
  CallsR Tryz.prog 111 [.agg (B8 a.1).toArray, .agg (ptC p).toArray, .agg (B8 b.1).toArray, .agg (ptC q).toArray] w fun v w' => v = .agg (ptC r).toArray ∧ Below w.heap.size w w' := by
 have ha := a.2
 have hb := b.2
 obtain ⟨c1, hc1⟩ : ∃ zz, ckS p = zz := ⟨_, rfl⟩
 obtain ⟨c2, hc2⟩ : ∃ zz, ckS q = zz := ⟨_, rfl⟩
 obtain ⟨e, he⟩ : ∃ zz, dS = zz := ⟨_, rfl⟩
 obtain ⟨d, hd⟩ : ∃ zz, openS e = zz := ⟨_, rfl⟩
 obtain ⟨z, hz⟩ : ∃ zz, zeroPt = zz := ⟨_, rfl⟩
 obtain ⟨o0, ho0⟩ : ∃ zz, awayS z = zz := ⟨_, rfl⟩
 obtain ⟨x, hx⟩ : ∃ zz, awayS p = zz := ⟨_, rfl⟩
 obtain ⟨y, hy⟩ : ∃ zz, awayS q = zz := ⟨_, rfl⟩
 have hdl := d.2
 have hr2 : r = if c1 = 0 ∧ c2 = 0 then nearS (mlF d a x b y o0) else z := by rw [← hr]; unfold mul2S; rw [hc1, hc2, he, hd, hz, ho0, hx, hy]
 clear hr
 refine callsR Tryz.func111 rfl rfl (by kernel_rfl) rfl ?_
 have hw := Below.refl w.heap.size w
 by_cases n1 : c1 = 0
 ·by_cases n2 : c2 = 0
  ·rw [if_pos ⟨n1, n2⟩] at hr2
   refine zs ?_
   refine wl_boxg _ rfl (by rfl) ?_
   rintro g4 w4 f4 b4 i4 i4_1
   have s4 := b4.size
   replace hw := hw.trans (b4.mono hw.size)
   refine wl_boxg _ rfl (by rfl) ?_
   rintro g5 w5 f5 b5 i5 i5_1
   have s5 := b5.size
   replace hw := hw.trans (b5.mono hw.size)
   replace f4 := f4.u b5
   refine wl_boxg _ rfl (by rfl) ?_
   rintro g6 w6 f6 b6 i6 i6_1
   have s6 := b6.size
   replace hw := hw.trans (b6.mono hw.size)
   replace f4 := f4.u b6
   replace f5 := f5.u b6
   refine wl_boxg _ rfl (by rfl) ?_
   rintro g7 w7 f7 b7 i7 i7_1
   have s7 := b7.size
   replace hw := hw.trans (b7.mono hw.size)
   replace f5 := f5.u b7
   replace f4 := f4.u b7
   replace f6 := f6.u b7
   refine wl_allocg [_, _, _, _, _, _, _, _, _, _, _, _, _, _, _, _, _, _, _, _, _, _, _, _, _, _, _, _, _, _, _, _, _, _, _, _, _, _, _, _, _, _, _, _, _, _, _, _, _, _, _, _, _, _, _, _, _, _, _, _, _, _, _, _] Tryz.zeroValue110 (by rfl) ?_
   rintro g8 w8 f8 b8 i8 i8_1
   have s8 := b8.size
   replace hw := hw.trans (b8.mono hw.size)
   replace f6 := f6.u b8
   replace f4 := f4.u b8
   replace f5 := f5.u b8
   replace f7 := f7.u b8
   refine wl_nil (rk_seq (zs ?_))
   refine wl_r (o_ldPt rfl f5) ?_
   refine wl_call rfl (C_f5Check _ hc1) ?_
   rintro v15 w15 ⟨rfl, b15⟩
   have s15 := b15.size
   replace hw := hw.trans (b15.mono hw.size)
   replace f7 := f7.u b15
   replace f5 := f5.u b15
   replace f4 := f4.u b15
   replace f6 := f6.u b15
   replace f8 := f8.u b15
   refine zp (o_ne rfl rfl) ?_
   refine zm rfl ?_
   refine wl_know 17 false rfl (decide_eq_false (by omega)) ?_
   refine wl_r (o_ldPt rfl f7) ?_
   refine wl_call rfl (C_f5Check _ hc2) ?_
   rintro v19 w19 ⟨rfl, b19⟩
   have s19 := b19.size
   replace hw := hw.trans (b19.mono hw.size)
   replace f8 := f8.u b19
   replace f6 := f6.u b19
   replace f4 := f4.u b19
   replace f5 := f5.u b19
   replace f7 := f7.u b19
   refine zp (o_ne rfl rfl) ?_
   refine zp (o_pick_f rfl rfl) ?_
   refine wl_nil ?_
   refine rk_if rfl (fun h21 => absurd h21 (by omega)) (fun h21 => ?_)
   refine rk_skip (rk_seq ?_)
   refine rk_drawo (id := 3) (none) [0, 1, 2, 4, 0, 24, 0, 96, 0, 0, 0, 0, 3971, 7951, 16191, 32767] [0, 1, 3, 7, 0, 31, 0, 127, 0, 0, 0, 0, 4095, 8191, 16383, 32767] 65455 3887 [4, 6] [(.s, 4), (.s, 6), (.f 80 65455 3887, 14)] (by kernel_rfl) (by kernel_rfl) (by kernel_rfl) (by kernel_rfl) (by kernel_rfl) ?_
   dsimp only [inOrder, nthOp]
   replace hw := hw.drew
   replace f7 := f7.d
   replace f5 := f5.d
   replace f4 := f4.d
   replace f6 := f6.d
   replace f8 := f8.d
   refine wl_s (fun _ hk => (o_ldPt rfl (f5.u (below_of_grown_none hk)))) ?_
   refine wl_s (fun _ hk => (o_ldPt rfl (f7.u (below_of_grown_none hk)))) ?_
   refine wl_conc [⟨0, [], [23], [], fun vs w' lo hi => vs = [.agg (B8 e.1).toArray]⟩, ⟨1, [], [24], [0], fun vs w' lo hi => vs = [.agg (vI d.1).toArray]⟩, ⟨2, [], [25], [0, 1], fun vs w' lo hi => vs = [.agg (ptC z).toArray]⟩, ⟨3, [], [26], [0, 1, 2], fun vs w' lo hi => vs = [.agg (frC o0).toArray]⟩, ⟨5, [], [28], [0, 1, 2, 3], fun vs w' lo hi => vs = [.agg (frC x).toArray]⟩, ⟨7, [], [30], [0, 1, 2, 3, 4], fun vs w' lo hi => vs = [.agg (frC y).toArray]⟩, ⟨8, [], [9], [], fun vs w' lo hi => ∃ (g9 : Nat), vs = [.pointer (some ⟨g9, 0, none⟩)] ∧ Blk w' g9 173 (vI (List.replicate 10 0)) ∧ lo ≤ g9 ∧ g9 < hi⟩, ⟨9, [], [10], [], fun vs w' lo hi => ∃ (g10 : Nat), vs = [.pointer (some ⟨g10, 0, none⟩)] ∧ Blk w' g10 177 (vI (List.replicate 30 0)) ∧ lo ≤ g10 ∧ g10 < hi⟩, ⟨10, [], [11], [], fun vs w' lo hi => ∃ (g11 : Nat), vs = [.pointer (some ⟨g11, 0, none⟩)] ∧ Blk w' g11 177 (vI (List.replicate 30 0)) ∧ lo ≤ g11 ∧ g11 < hi⟩, ⟨11, [], [12], [], fun vs w' lo hi => ∃ (g12 : Nat), vs = [.pointer (some ⟨g12, 0, none⟩)] ∧ Blk w' g12 177 (vI (List.replicate 30 0)) ∧ lo ≤ g12 ∧ g12 < hi⟩] [0, 1, 2, 3, 4, 5, 6, 7, 8, 9] [0, 1, 2, 4, 0, 24, 0, 96, 0, 0, 0, 0, 3971, 7951, 16191, 32767] [0, 1, 3, 7, 0, 31, 0, 127, 0, 0, 0, 0, 4095, 8191, 16383, 32767] [12, 13, 14, 15] [(.l, 12), (.l, 13), (.l, 14), (.l, 15)] (by kernel_rfl) (by kernel_rfl) (by kernel_rfl) (by kernel_rfl) ⟨fun _ _ _ _ _ h _ => h, fun _ _ _ _ _ h _ => h, fun _ _ _ _ _ h _ => h, fun _ _ _ _ _ h _ => h, fun _ _ _ _ _ h _ => h, fun _ _ _ _ _ h _ => h, fun _ _ _ _ _ h hb => by obtain ⟨g9, e0, g0, g1, g2⟩ := h; exact ⟨g9, e0, g0.u hb, g1, g2⟩, fun _ _ _ _ _ h hb => by obtain ⟨g10, e0, g0, g1, g2⟩ := h; exact ⟨g10, e0, g0.u hb, g1, g2⟩, fun _ _ _ _ _ h hb => by obtain ⟨g11, e0, g0, g1, g2⟩ := h; exact ⟨g11, e0, g0.u hb, g1, g2⟩, fun _ _ _ _ _ h hb => by obtain ⟨g12, e0, g0, g1, g2⟩ := h; exact ⟨g12, e0, g0.u hb, g1, g2⟩, trivial⟩ ⟨?_, ?_, ?_, ?_, ?_, ?_, ?_, ?_, ?_, ?_, trivial⟩ ?_
   ·intro wI hbI fo T T2 n2
    intro hk
    dsimp only [Item.idx, inOrder, nthOp, List.map, List.zip_cons_cons, List.zip_nil_right, List.cons_append, List.nil_append]
    have shbI := hbI.size
    simp only [drew_size] at shbI
    replace hw := hw.trans (hbI.mono hw.size)
    replace f8 := f8.u hbI
    replace f6 := f6.u hbI
    replace f4 := f4.u hbI
    replace f5 := f5.u hbI
    replace f7 := f7.u hbI
    have hw1 := Below.refl wI.heap.size wI
    refine wl_call rfl (C_f5D _ he) ?_ (hq := .inr fun _ _ h => grown_of_below h.2 _)
    rintro v23 w23 ⟨rfl, b23⟩
    have s23 := b23.size
    replace hw := hw.trans (b23.mono hw.size)
    replace hw1 := hw1.trans (b23.mono hw1.size)
    replace f7 := f7.u b23
    replace f5 := f5.u b23
    replace f4 := f4.u b23
    replace f6 := f6.u b23
    replace f8 := f8.u b23
    exact hk [_] _ rfl hw1
   ·intro wI hbI fo T T2 n2
    rintro _ lo0 hi0 ⟨rfl⟩ ql0 qm0 qh0 -
    try dsimp only at ql0 qm0 qh0 
    try simp only [drew_size] at ql0 qm0 qh0 
    intro hk
    dsimp only [Item.idx, inOrder, nthOp, List.map, List.zip_cons_cons, List.zip_nil_right, List.cons_append, List.nil_append]
    have shbI := hbI.size
    simp only [drew_size] at shbI
    replace hw := hw.trans (hbI.mono hw.size)
    replace f8 := f8.u hbI
    replace f6 := f6.u hbI
    replace f4 := f4.u hbI
    replace f5 := f5.u hbI
    replace f7 := f7.u hbI
    have hw1 := Below.refl wI.heap.size wI
    refine wl_call rfl (C_f3Open _ hd) ?_ (hq := .inr fun _ _ h => grown_of_below h.2 _)
    rintro v24 w24 ⟨rfl, b24⟩
    have s24 := b24.size
    replace hw := hw.trans (b24.mono hw.size)
    replace hw1 := hw1.trans (b24.mono hw1.size)
    replace f7 := f7.u b24
    replace f5 := f5.u b24
    replace f4 := f4.u b24
    replace f6 := f6.u b24
    replace f8 := f8.u b24
    exact hk [_] _ rfl hw1
   ·intro wI hbI fo T T2 n2
    rintro _ lo0 hi0 ⟨rfl⟩ ql0 qm0 qh0 -
    rintro _ lo1 hi1 ⟨rfl⟩ ql1 qm1 qh1 ⟨qa1_0, -⟩
    try dsimp only at ql0 qm0 qh0  ql1 qm1 qh1 qa1_0
    try simp only [drew_size] at ql0 qm0 qh0  ql1 qm1 qh1 qa1_0
    intro hk
    dsimp only [Item.idx, inOrder, nthOp, List.map, List.zip_cons_cons, List.zip_nil_right, List.cons_append, List.nil_append]
    have shbI := hbI.size
    simp only [drew_size] at shbI
    replace hw := hw.trans (hbI.mono hw.size)
    replace f8 := f8.u hbI
    replace f6 := f6.u hbI
    replace f4 := f4.u hbI
    replace f5 := f5.u hbI
    replace f7 := f7.u hbI
    have hw1 := Below.refl wI.heap.size wI
    refine wl_call rfl (C_f5Zero _ hz) ?_ (hq := .inr fun _ _ h => grown_of_below h.2 _)
    rintro v25 w25 ⟨rfl, b25⟩
    have s25 := b25.size
    replace hw := hw.trans (b25.mono hw.size)
    replace hw1 := hw1.trans (b25.mono hw1.size)
    replace f7 := f7.u b25
    replace f5 := f5.u b25
    replace f4 := f4.u b25
    replace f6 := f6.u b25
    replace f8 := f8.u b25
    exact hk [_] _ rfl hw1
   ·intro wI hbI fo T T2 n2
    rintro _ lo0 hi0 ⟨rfl⟩ ql0 qm0 qh0 -
    rintro _ lo1 hi1 ⟨rfl⟩ ql1 qm1 qh1 ⟨qa1_0, -⟩
    rintro _ lo2 hi2 ⟨rfl⟩ ql2 qm2 qh2 ⟨qa2_1, qa2_0, -⟩
    try dsimp only at ql0 qm0 qh0  ql1 qm1 qh1 qa1_0 ql2 qm2 qh2 qa2_0 qa2_1
    try simp only [drew_size] at ql0 qm0 qh0  ql1 qm1 qh1 qa1_0 ql2 qm2 qh2 qa2_0 qa2_1
    intro hk
    dsimp only [Item.idx, inOrder, nthOp, List.map, List.zip_cons_cons, List.zip_nil_right, List.cons_append, List.nil_append]
    have shbI := hbI.size
    simp only [drew_size] at shbI
    replace hw := hw.trans (hbI.mono hw.size)
    replace f8 := f8.u hbI
    replace f6 := f6.u hbI
    replace f4 := f4.u hbI
    replace f5 := f5.u hbI
    replace f7 := f7.u hbI
    have hw1 := Below.refl wI.heap.size wI
    refine wl_call rfl (C_f5away _ ho0) ?_ (hq := .inr fun _ _ h => grown_of_below h.2 _)
    rintro v26 w26 ⟨rfl, b26⟩
    have s26 := b26.size
    replace hw := hw.trans (b26.mono hw.size)
    replace hw1 := hw1.trans (b26.mono hw1.size)
    replace f7 := f7.u b26
    replace f5 := f5.u b26
    replace f4 := f4.u b26
    replace f6 := f6.u b26
    replace f8 := f8.u b26
    exact hk [_] _ rfl hw1
   ·intro wI hbI fo T T2 n2
    rintro _ lo0 hi0 ⟨rfl⟩ ql0 qm0 qh0 -
    rintro _ lo1 hi1 ⟨rfl⟩ ql1 qm1 qh1 ⟨qa1_0, -⟩
    rintro _ lo2 hi2 ⟨rfl⟩ ql2 qm2 qh2 ⟨qa2_1, qa2_0, -⟩
    rintro _ lo3 hi3 ⟨rfl⟩ ql3 qm3 qh3 ⟨qa3_2, qa3_1, qa3_0, -⟩
    try dsimp only at ql0 qm0 qh0  ql1 qm1 qh1 qa1_0 ql2 qm2 qh2 qa2_0 qa2_1 ql3 qm3 qh3 qa3_0 qa3_1 qa3_2
    try simp only [drew_size] at ql0 qm0 qh0  ql1 qm1 qh1 qa1_0 ql2 qm2 qh2 qa2_0 qa2_1 ql3 qm3 qh3 qa3_0 qa3_1 qa3_2
    intro hk
    dsimp only [Item.idx, inOrder, nthOp, List.map, List.zip_cons_cons, List.zip_nil_right, List.cons_append, List.nil_append]
    have shbI := hbI.size
    simp only [drew_size] at shbI
    replace hw := hw.trans (hbI.mono hw.size)
    replace f8 := f8.u hbI
    replace f6 := f6.u hbI
    replace f4 := f4.u hbI
    replace f5 := f5.u hbI
    replace f7 := f7.u hbI
    have hw1 := Below.refl wI.heap.size wI
    refine wl_call rfl (C_f5away _ hx) ?_ (hq := .inr fun _ _ h => grown_of_below h.2 _)
    rintro v28 w28 ⟨rfl, b28⟩
    have s28 := b28.size
    replace hw := hw.trans (b28.mono hw.size)
    replace hw1 := hw1.trans (b28.mono hw1.size)
    replace f7 := f7.u b28
    replace f5 := f5.u b28
    replace f4 := f4.u b28
    replace f6 := f6.u b28
    replace f8 := f8.u b28
    exact hk [_] _ rfl hw1
   ·intro wI hbI fo T T2 n2
    rintro _ lo0 hi0 ⟨rfl⟩ ql0 qm0 qh0 -
    rintro _ lo1 hi1 ⟨rfl⟩ ql1 qm1 qh1 ⟨qa1_0, -⟩
    rintro _ lo2 hi2 ⟨rfl⟩ ql2 qm2 qh2 ⟨qa2_1, qa2_0, -⟩
    rintro _ lo3 hi3 ⟨rfl⟩ ql3 qm3 qh3 ⟨qa3_2, qa3_1, qa3_0, -⟩
    rintro _ lo4 hi4 ⟨rfl⟩ ql4 qm4 qh4 ⟨qa4_3, qa4_2, qa4_1, qa4_0, -⟩
    try dsimp only at ql0 qm0 qh0  ql1 qm1 qh1 qa1_0 ql2 qm2 qh2 qa2_0 qa2_1 ql3 qm3 qh3 qa3_0 qa3_1 qa3_2 ql4 qm4 qh4 qa4_0 qa4_1 qa4_2 qa4_3
    try simp only [drew_size] at ql0 qm0 qh0  ql1 qm1 qh1 qa1_0 ql2 qm2 qh2 qa2_0 qa2_1 ql3 qm3 qh3 qa3_0 qa3_1 qa3_2 ql4 qm4 qh4 qa4_0 qa4_1 qa4_2 qa4_3
    intro hk
    dsimp only [Item.idx, inOrder, nthOp, List.map, List.zip_cons_cons, List.zip_nil_right, List.cons_append, List.nil_append]
    have shbI := hbI.size
    simp only [drew_size] at shbI
    replace hw := hw.trans (hbI.mono hw.size)
    replace f8 := f8.u hbI
    replace f6 := f6.u hbI
    replace f4 := f4.u hbI
    replace f5 := f5.u hbI
    replace f7 := f7.u hbI
    have hw1 := Below.refl wI.heap.size wI
    refine wl_call rfl (C_f5away _ hy) ?_
    rintro v30 w30 ⟨rfl, b30⟩
    have s30 := b30.size
    replace hw := hw.trans (b30.mono hw.size)
    replace hw1 := hw1.trans (b30.mono hw1.size)
    replace f7 := f7.u b30
    replace f5 := f5.u b30
    replace f4 := f4.u b30
    replace f6 := f6.u b30
    replace f8 := f8.u b30
    exact hk [_] _ rfl hw1
   ·intro wI hbI fo T T2 n2
    intro hk
    dsimp only [Item.idx, inOrder, nthOp, List.map, List.zip_cons_cons, List.zip_nil_right, List.cons_append, List.nil_append]
    have shbI := hbI.size
    simp only [drew_size] at shbI
    replace hw := hw.trans (hbI.mono hw.size)
    replace f8 := f8.u hbI
    replace f6 := f6.u hbI
    replace f4 := f4.u hbI
    replace f5 := f5.u hbI
    replace f7 := f7.u hbI
    have hw1 := Below.refl wI.heap.size wI
    refine wl_allocg [_, _, _, _, _, _, _, _, _, _] Tryz.zeroValue173 (by rfl) ?_
    rintro g9 w9 f9 b9 i9 i9_1
    have s9 := b9.size
    replace hw := hw.trans (b9.mono hw.size)
    replace hw1 := hw1.trans (b9.mono hw1.size)
    replace f7 := f7.u b9
    replace f5 := f5.u b9
    replace f4 := f4.u b9
    replace f6 := f6.u b9
    replace f8 := f8.u b9
    exact hk [_] _ ⟨_, rfl, f9, by omega, by omega⟩ hw1
   ·intro wI hbI fo T T2 n2
    intro hk
    dsimp only [Item.idx, inOrder, nthOp, List.map, List.zip_cons_cons, List.zip_nil_right, List.cons_append, List.nil_append]
    have shbI := hbI.size
    simp only [drew_size] at shbI
    replace hw := hw.trans (hbI.mono hw.size)
    replace f8 := f8.u hbI
    replace f6 := f6.u hbI
    replace f4 := f4.u hbI
    replace f5 := f5.u hbI
    replace f7 := f7.u hbI
    have hw1 := Below.refl wI.heap.size wI
    refine wl_allocg [_, _, _, _, _, _, _, _, _, _, _, _, _, _, _, _, _, _, _, _, _, _, _, _, _, _, _, _, _, _] Tryz.zeroValue177 (by rfl) ?_
    rintro g10 w10 f10 b10 i10 i10_1
    have s10 := b10.size
    replace hw := hw.trans (b10.mono hw.size)
    replace hw1 := hw1.trans (b10.mono hw1.size)
    replace f7 := f7.u b10
    replace f5 := f5.u b10
    replace f4 := f4.u b10
    replace f6 := f6.u b10
    replace f8 := f8.u b10
    exact hk [_] _ ⟨_, rfl, f10, by omega, by omega⟩ hw1
   ·intro wI hbI fo T T2 n2
    intro hk
    dsimp only [Item.idx, inOrder, nthOp, List.map, List.zip_cons_cons, List.zip_nil_right, List.cons_append, List.nil_append]
    have shbI := hbI.size
    simp only [drew_size] at shbI
    replace hw := hw.trans (hbI.mono hw.size)
    replace f8 := f8.u hbI
    replace f6 := f6.u hbI
    replace f4 := f4.u hbI
    replace f5 := f5.u hbI
    replace f7 := f7.u hbI
    have hw1 := Below.refl wI.heap.size wI
    refine wl_allocg [_, _, _, _, _, _, _, _, _, _, _, _, _, _, _, _, _, _, _, _, _, _, _, _, _, _, _, _, _, _] Tryz.zeroValue177 (by rfl) ?_
    rintro g11 w11 f11 b11 i11 i11_1
    have s11 := b11.size
    replace hw := hw.trans (b11.mono hw.size)
    replace hw1 := hw1.trans (b11.mono hw1.size)
    replace f7 := f7.u b11
    replace f5 := f5.u b11
    replace f4 := f4.u b11
    replace f6 := f6.u b11
    replace f8 := f8.u b11
    exact hk [_] _ ⟨_, rfl, f11, by omega, by omega⟩ hw1
   ·intro wI hbI fo T T2 n2
    intro hk
    dsimp only [Item.idx, inOrder, nthOp, List.map, List.zip_cons_cons, List.zip_nil_right, List.cons_append, List.nil_append]
    have shbI := hbI.size
    simp only [drew_size] at shbI
    replace hw := hw.trans (hbI.mono hw.size)
    replace f8 := f8.u hbI
    replace f6 := f6.u hbI
    replace f4 := f4.u hbI
    replace f5 := f5.u hbI
    replace f7 := f7.u hbI
    have hw1 := Below.refl wI.heap.size wI
    refine wl_allocg [_, _, _, _, _, _, _, _, _, _, _, _, _, _, _, _, _, _, _, _, _, _, _, _, _, _, _, _, _, _] Tryz.zeroValue177 (by rfl) ?_
    rintro g12 w12 f12 b12 i12 i12_1
    have s12 := b12.size
    replace hw := hw.trans (b12.mono hw.size)
    replace hw1 := hw1.trans (b12.mono hw1.size)
    replace f7 := f7.u b12
    replace f5 := f5.u b12
    replace f4 := f4.u b12
    replace f6 := f6.u b12
    replace f8 := f8.u b12
    exact hk [_] _ ⟨_, rfl, f12, by omega, by omega⟩ hw1
   intro wE hbE
   rintro _ lo0 hi0 ⟨rfl⟩ ql0 qm0 qh0 -
   rintro _ lo1 hi1 ⟨rfl⟩ ql1 qm1 qh1 ⟨qa1_0, -⟩
   rintro _ lo2 hi2 ⟨rfl⟩ ql2 qm2 qh2 ⟨qa2_1, qa2_0, -⟩
   rintro _ lo3 hi3 ⟨rfl⟩ ql3 qm3 qh3 ⟨qa3_2, qa3_1, qa3_0, -⟩
   rintro _ lo4 hi4 ⟨rfl⟩ ql4 qm4 qh4 ⟨qa4_3, qa4_2, qa4_1, qa4_0, -⟩
   rintro _ lo5 hi5 ⟨rfl⟩ ql5 qm5 qh5 ⟨qa5_4, qa5_3, qa5_2, qa5_1, qa5_0, -⟩
   rintro _ lo6 hi6 ⟨g9, rfl, f9, f9_1, f9_2⟩ ql6 qm6 qh6 ⟨qa6_5, qa6_4, qa6_3, qa6_2, qa6_1, qa6_0, -⟩
   rintro _ lo7 hi7 ⟨g10, rfl, f10, f10_1, f10_2⟩ ql7 qm7 qh7 ⟨qa7_6, qa7_5, qa7_4, qa7_3, qa7_2, qa7_1, qa7_0, -⟩
   rintro _ lo8 hi8 ⟨g11, rfl, f11, f11_1, f11_2⟩ ql8 qm8 qh8 ⟨qa8_7, qa8_6, qa8_5, qa8_4, qa8_3, qa8_2, qa8_1, qa8_0, -⟩
   rintro _ lo9 hi9 ⟨g12, rfl, f12, f12_1, f12_2⟩ ql9 qm9 qh9 ⟨qa9_8, qa9_7, qa9_6, qa9_5, qa9_4, qa9_3, qa9_2, qa9_1, qa9_0, -⟩
   try dsimp only at ql0 qm0 qh0  ql1 qm1 qh1 qa1_0 ql2 qm2 qh2 qa2_0 qa2_1 ql3 qm3 qh3 qa3_0 qa3_1 qa3_2 ql4 qm4 qh4 qa4_0 qa4_1 qa4_2 qa4_3 ql5 qm5 qh5 qa5_0 qa5_1 qa5_2 qa5_3 qa5_4 ql6 qm6 qh6 qa6_0 qa6_1 qa6_2 qa6_3 qa6_4 qa6_5 ql7 qm7 qh7 qa7_0 qa7_1 qa7_2 qa7_3 qa7_4 qa7_5 qa7_6 ql8 qm8 qh8 qa8_0 qa8_1 qa8_2 qa8_3 qa8_4 qa8_5 qa8_6 qa8_7 ql9 qm9 qh9 qa9_0 qa9_1 qa9_2 qa9_3 qa9_4 qa9_5 qa9_6 qa9_7 qa9_8
   try simp only [drew_size] at ql0 qm0 qh0  ql1 qm1 qh1 qa1_0 ql2 qm2 qh2 qa2_0 qa2_1 ql3 qm3 qh3 qa3_0 qa3_1 qa3_2 ql4 qm4 qh4 qa4_0 qa4_1 qa4_2 qa4_3 ql5 qm5 qh5 qa5_0 qa5_1 qa5_2 qa5_3 qa5_4 ql6 qm6 qh6 qa6_0 qa6_1 qa6_2 qa6_3 qa6_4 qa6_5 ql7 qm7 qh7 qa7_0 qa7_1 qa7_2 qa7_3 qa7_4 qa7_5 qa7_6 ql8 qm8 qh8 qa8_0 qa8_1 qa8_2 qa8_3 qa8_4 qa8_5 qa8_6 qa8_7 ql9 qm9 qh9 qa9_0 qa9_1 qa9_2 qa9_3 qa9_4 qa9_5 qa9_6 qa9_7 qa9_8
   dsimp only [given, Item.idx, inOrder, nthOp, List.map, List.zip_cons_cons, List.zip_nil_right]
   have shbE := hbE.size
   simp only [drew_size] at shbE
   replace hw := hw.trans (hbE.mono hw.size)
   replace f8 := f8.u hbE
   replace f6 := f6.u hbE
   replace f4 := f4.u hbE
   replace f5 := f5.u hbE
   replace f7 := f7.u hbE
   have m9_10 := ne_parts f9_1 f9_2 f10_1 f10_2 qa7_6
   have m9_11 := ne_parts f9_1 f9_2 f11_1 f11_2 qa8_6
   have m10_11 := ne_parts f10_1 f10_2 f11_1 f11_2 qa8_7
   have m9_12 := ne_parts f9_1 f9_2 f12_1 f12_2 qa9_6
   have m10_12 := ne_parts f10_1 f10_2 f12_1 f12_2 qa9_7
   have m11_12 := ne_parts f11_1 f11_2 f12_1 f12_2 qa9_8
   have l9 := Nat.le_trans ql6 f9_1
   have u9 := Nat.lt_of_lt_of_le f9_2 qh6
   have l10 := Nat.le_trans ql7 f10_1
   have u10 := Nat.lt_of_lt_of_le f10_2 qh7
   have l11 := Nat.le_trans ql8 f11_1
   have u11 := Nat.lt_of_lt_of_le f11_2 qh8
   have l12 := Nat.le_trans ql9 f12_1
   have u12 := Nat.lt_of_lt_of_le f12_2 qh9
   clear qa1_0 qa2_0 qa2_1 qa3_0 qa3_1 qa3_2 qa4_0 qa4_1 qa4_2 qa4_3 qa5_0 qa5_1 qa5_2 qa5_3 qa5_4 qa6_0 qa6_1 qa6_2 qa6_3 qa6_4 qa6_5 qa7_0 qa7_1 qa7_2 qa7_3 qa7_4 qa7_5 qa7_6 qa8_0 qa8_1 qa8_2 qa8_3 qa8_4 qa8_5 qa8_6 qa8_7 qa9_0 qa9_1 qa9_2 qa9_3 qa9_4 qa9_5 qa9_6 qa9_7 qa9_8 ql0 qm0 qh0 ql1 qm1 qh1 ql2 qm2 qh2 ql3 qm3 qh3 ql4 qm4 qh4 ql5 qm5 qh5 ql6 qm6 qh6 ql7 qm7 qh7 ql8 qm8 qh8 ql9 qm9 qh9 f9_1 f9_2 f10_1 f10_2 f11_1 f11_2 f12_1 f12_2
   refine wl_stW0 rfl f9 rfl (by rfl) ?_
   rintro w_1 f g e_1
   have s := g.size
   replace hw := hw.trans (below_of_grownBy g.g hw.size (by omega))
   replace f7 := f7.k g.g (ap_some (by omega))
   replace f5 := f5.k g.g (ap_some (by omega))
   replace f4 := f4.k g.g (ap_some (by omega))
   replace f6 := f6.k g.g (ap_some (by omega))
   replace f8 := f8.k g.g (ap_some (by omega))
   replace f12 := f12.k g.g (ap_some (by omega))
   replace f11 := f11.k g.g (ap_some (by omega))
   replace f10 := f10.k g.g (ap_some (by omega))
   clear f9
   refine wl_stFr rfl f10 rfl (by rfl) ?_
   rintro w_2 f_1 g_1 e_2
   have s_1 := g_1.size
   replace hw := hw.trans (below_of_grownBy g_1.g hw.size (by omega))
   replace f11 := f11.k g_1.g (ap_some (by omega))
   replace f12 := f12.k g_1.g (ap_some (by omega))
   replace f8 := f8.k g_1.g (ap_some (by omega))
   replace f6 := f6.k g_1.g (ap_some (by omega))
   replace f4 := f4.k g_1.g (ap_some (by omega))
   replace f5 := f5.k g_1.g (ap_some (by omega))
   replace f7 := f7.k g_1.g (ap_some (by omega))
   replace f := f.k g_1.g (ap_some (by omega))
   clear f10
   refine wl_stFr rfl f11 rfl (by rfl) ?_
   rintro w_3 f_2 g_2 e_3
   have s_2 := g_2.size
   replace hw := hw.trans (below_of_grownBy g_2.g hw.size (by omega))
   replace f := f.k g_2.g (ap_some (by omega))
   replace f7 := f7.k g_2.g (ap_some (by omega))
   replace f5 := f5.k g_2.g (ap_some (by omega))
   replace f4 := f4.k g_2.g (ap_some (by omega))
   replace f6 := f6.k g_2.g (ap_some (by omega))
   replace f8 := f8.k g_2.g (ap_some (by omega))
   replace f12 := f12.k g_2.g (ap_some (by omega))
   replace f_1 := f_1.k g_2.g (ap_some (by omega))
   clear f11
   refine wl_stFr rfl f12 rfl (by rfl) ?_
   rintro w_4 f_3 g_3 e_4
   have s_3 := g_3.size
   replace hw := hw.trans (below_of_grownBy g_3.g hw.size (by omega))
   replace f_1 := f_1.k g_3.g (ap_some (by omega))
   replace f8 := f8.k g_3.g (ap_some (by omega))
   replace f6 := f6.k g_3.g (ap_some (by omega))
   replace f4 := f4.k g_3.g (ap_some (by omega))
   replace f5 := f5.k g_3.g (ap_some (by omega))
   replace f7 := f7.k g_3.g (ap_some (by omega))
   replace f := f.k g_3.g (ap_some (by omega))
   replace f_2 := f_2.k g_3.g (ap_some (by omega))
   clear f12
   refine wl_nild ?_
   refine rk_seq (zs (za rfl (wl_nil (rk_block ?_))))
   have f8' : ∃ zP : List Value, Blk w_4 g8 110 zP ∧ zP.length = 64 := ⟨_, f8, by rfl⟩
   clear f8
   obtain ⟨zP, f8, hzp⟩ := f8'
   clear f5 f7
   refine rk_joinf (fun fb fr V => ∃ (o : Fr3), fr = [] ++ fb.drop 1 ∧ o = foldN (mlI d a x b y) 256 o0 ∧ Blk V g8 110 zP ∧ Blk V g10 177 (frC o) ∧ Below w.heap.size w V) ?_ (fun ks hj => ?_)
   rotate_left
   ·refine rk_loopf (fun fb k fr V => ∃ (j : Nat) (v : Int) (o : Fr3), fr = [(13, .int .i64 v)] ++ fb.drop 1 ∧ v = 255 - (j : Int) ∧ j ≤ 256 ∧ k = 256 - j ∧ o = foldN (mlI d a x b y) j o0 ∧ Blk V g4 108 (B8 a.1) ∧ Blk V g6 108 (B8 b.1) ∧ Blk V g8 110 zP ∧ Blk V g9 173 (vI d.1) ∧ Blk V g10 177 (frC o) ∧ Blk V g11 177 (frC x) ∧ Blk V g12 177 (frC y) ∧ Below w.heap.size w V) (n := 256) (Fr.le_of (by kernel_rfl) (by kernel_rfl) (by repeat' constructor)) ⟨0, _, o0, rfl, rfl, by omega, rfl, rfl, f4, f6, f8, by assumption, by assumption, by assumption, by assumption, hw⟩ ?_
    clear f4 f6 f8 f f_1 f_2 f_3 hw
    rintro k fr V ⟨j, v, o, rfl, rfl, hj2, rfl, ho, f4, f6, f8, f9, f10, f11, f12, hw⟩
    have shw := hw.size
    have hos : foldN (mlI d a x b y) (j + 1) o0 = mlI d a x b y o j := by rw [ho]; exact foldN_succ _ _ _
    obtain ⟨o1, h1⟩ : ∃ zz, fplus d o o = zz := ⟨_, rfl⟩
    obtain ⟨o2, h2⟩ : ∃ zz, mlA d a x o1 j = zz := ⟨_, rfl⟩
    obtain ⟨o3, h3⟩ : ∃ zz, mlA d b y o2 j = zz := ⟨_, rfl⟩
    have hom : mlI d a x b y o j = o3 := by unfold mlI; rw [h1, h2, h3]
    rw [hom] at hos
    clear hom
    unfold mlA at h2 h3
    first | refine zf ?_ | refine zg ?_
    by_cases hjl : j < 256
    ·refine rk_seq ?_
     refine zs (zm rfl ?_)
     refine zp (o_ge rfl rfl) ?_
     refine wl_nil ?_
     refine rk_if rfl (fun h32 => ?_) (fun h32 => h32.elim (by omega))
     refine rk_skip (rk_seq (rk_block (zs ?_)))
     refine wl_r (o_loadag Tryz.isAgg173 Tryz.sizeOf173 rfl f9 vI10) ?_
     refine wl_r (o_ldFr rfl f10) ?_
     refine wl_r (o_ldFr rfl f10) ?_
     refine wl_call rfl (C_f5plus _ h1) ?_
     rintro v38 w38 ⟨rfl, b38⟩
     have s38 := b38.size
     replace hw := hw.trans (b38.mono hw.size)
     replace f12 := f12.u b38
     replace f11 := f11.u b38
     replace f10 := f10.u b38
     replace f9 := f9.u b38
     replace f8 := f8.u b38
     replace f6 := f6.u b38
     replace f4 := f4.u b38
     refine wl_stFr rfl f10 rfl (frC_len _) ?_
     rintro w_5 f g_4 e_5
     have s_4 := g_4.size
     replace hw := hw.trans (below_of_grownBy g_4.g hw.size (by omega))
     replace f4 := f4.k g_4.g (ap_some (by omega))
     replace f6 := f6.k g_4.g (ap_some (by omega))
     replace f8 := f8.k g_4.g (ap_some (by omega))
     replace f9 := f9.k g_4.g (ap_some (by omega))
     replace f11 := f11.k g_4.g (ap_some (by omega))
     replace f12 := f12.k g_4.g (ap_some (by omega))
     clear f10
     refine wl_nil (rk_seq (zs ?_))
     refine wl_r (o_ldBa Tryz.isAgg108 Tryz.sizeOf108 rfl f4 ha) ?_
     refine zm rfl ?_
     refine wl_call rfl (C_f4Bit (i := 255 - j) _ (by omega) (by omega)) ?_
     rintro _ w41 ⟨rfl, b41⟩
     have sb41 := b41.size
     replace hw := hw.trans (b41.mono hw.size)
     replace f12 := f12.u b41
     replace f11 := f11.u b41
     replace f9 := f9.u b41
     replace f8 := f8.u b41
     replace f6 := f6.u b41
     replace f4 := f4.u b41
     replace f := f.u b41
     refine wl_nil ?_
     refine rk_joink2 (fun fb fr V => fr = [] ++ fb.drop 1 ∧ Blk V g4 108 (B8 a.1) ∧ Blk V g6 108 (B8 b.1) ∧ Blk V g8 110 zP ∧ Blk V g9 173 (vI d.1) ∧ Blk V g10 177 (frC o2) ∧ Blk V g11 177 (frC x) ∧ Blk V g12 177 (frC y) ∧ Below w.heap.size w V) ?_ (fun ks hj => ?_)
     rotate_left
     ·by_cases hA : bit8 (a.at ((255 - j) / 8)) ((255 - j) % 8)
      ·rw [if_pos hA] at h2
       rw [decide_eq_true hA]
       refine rk_true rfl ?_
       refine rk_region ?_
       refine wl_r (o_loadag Tryz.isAgg173 Tryz.sizeOf173 rfl f9 vI10) ?_
       refine wl_r (o_ldFr rfl f) ?_
       refine wl_r (o_ldFr rfl f11) ?_
       refine wl_call rfl (C_f5plus _ h2) ?_
       rintro v45 w45 ⟨rfl, b45⟩
       have s45 := b45.size
       replace hw := hw.trans (b45.mono hw.size)
       replace f := f.u b45
       replace f4 := f4.u b45
       replace f6 := f6.u b45
       replace f8 := f8.u b45
       replace f9 := f9.u b45
       replace f11 := f11.u b45
       replace f12 := f12.u b45
       refine wl_stFr rfl f rfl (frC_len _) ?_
       rintro w_6 f_1 g_5 e_6
       have s_5 := g_5.size
       replace hw := hw.trans (below_of_grownBy g_5.g hw.size (by omega))
       replace f12 := f12.k g_5.g (ap_some (by omega))
       replace f11 := f11.k g_5.g (ap_some (by omega))
       replace f9 := f9.k g_5.g (ap_some (by omega))
       replace f8 := f8.k g_5.g (ap_some (by omega))
       replace f6 := f6.k g_5.g (ap_some (by omega))
       replace f4 := f4.k g_5.g (ap_some (by omega))
       clear f
       refine wl_nil ?_
       exact rk_tof hj (Fr.le_of (by kernel_rfl) (by kernel_rfl) (by repeat' constructor)) ⟨rfl, f4, f6, f8, f9, by assumption, f11, f12, hw⟩
      ·rw [if_neg hA] at h2
       rw [decide_eq_false hA]
       refine rk_false rfl ?_
       refine rk_skip ?_
       exact rk_tof hj (Fr.le_of (by kernel_rfl) (by kernel_rfl) (by repeat' constructor)) ⟨rfl, f4, f6, f8, f9, by rw [← h2]; assumption, f11, f12, hw⟩
     clear hw f4 f6 f8 f9 f11 f12 f
     rintro fr V ⟨rfl, f4, f6, f8, f9, f10, f11, f12, hw⟩
     have shw := hw.size
     first | refine zf ?_ | refine zg ?_
     refine zs ?_
     refine wl_r (o_ldBa Tryz.isAgg108 Tryz.sizeOf108 rfl f6 hb) ?_
     refine zm rfl ?_
     refine wl_call rfl (C_f4Bit (i := 255 - j) _ (by omega) (by omega)) ?_
     rintro _ w48 ⟨rfl, b48⟩
     have sb48 := b48.size
     replace hw := hw.trans (b48.mono hw.size)
     replace f12 := f12.u b48
     replace f11 := f11.u b48
     replace f10 := f10.u b48
     replace f9 := f9.u b48
     replace f8 := f8.u b48
     replace f6 := f6.u b48
     replace f4 := f4.u b48
     refine wl_nil ?_
     refine rk_joink2 (fun fb fr V => fr = [] ++ fb.drop 1 ∧ Blk V g4 108 (B8 a.1) ∧ Blk V g6 108 (B8 b.1) ∧ Blk V g8 110 zP ∧ Blk V g9 173 (vI d.1) ∧ Blk V g10 177 (frC o3) ∧ Blk V g11 177 (frC x) ∧ Blk V g12 177 (frC y) ∧ Below w.heap.size w V) ?_ (fun ks hj => ?_)
     rotate_left
     ·by_cases hA : bit8 (b.at ((255 - j) / 8)) ((255 - j) % 8)
      ·rw [if_pos hA] at h3
       rw [decide_eq_true hA]
       refine rk_true rfl ?_
       refine rk_region ?_
       refine wl_r (o_loadag Tryz.isAgg173 Tryz.sizeOf173 rfl f9 vI10) ?_
       refine wl_r (o_ldFr rfl f10) ?_
       refine wl_r (o_ldFr rfl f12) ?_
       refine wl_call rfl (C_f5plus _ h3) ?_
       rintro v52 w52 ⟨rfl, b52⟩
       have s52 := b52.size
       replace hw := hw.trans (b52.mono hw.size)
       replace f4 := f4.u b52
       replace f6 := f6.u b52
       replace f8 := f8.u b52
       replace f9 := f9.u b52
       replace f10 := f10.u b52
       replace f11 := f11.u b52
       replace f12 := f12.u b52
       refine wl_stFr rfl f10 rfl (frC_len _) ?_
       rintro w_6 f g_5 e_6
       have s_5 := g_5.size
       replace hw := hw.trans (below_of_grownBy g_5.g hw.size (by omega))
       replace f12 := f12.k g_5.g (ap_some (by omega))
       replace f11 := f11.k g_5.g (ap_some (by omega))
       replace f9 := f9.k g_5.g (ap_some (by omega))
       replace f8 := f8.k g_5.g (ap_some (by omega))
       replace f6 := f6.k g_5.g (ap_some (by omega))
       replace f4 := f4.k g_5.g (ap_some (by omega))
       clear f10
       refine wl_nil ?_
       exact rk_tof hj (Fr.le_of (by kernel_rfl) (by kernel_rfl) (by repeat' constructor)) ⟨rfl, f4, f6, f8, f9, by assumption, f11, f12, hw⟩
      ·rw [if_neg hA] at h3
       rw [decide_eq_false hA]
       refine rk_false rfl ?_
       refine rk_skip ?_
       exact rk_tof hj (Fr.le_of (by kernel_rfl) (by kernel_rfl) (by repeat' constructor)) ⟨rfl, f4, f6, f8, f9, by rw [← h3]; assumption, f11, f12, hw⟩
     clear hw f4 f6 f8 f9 f11 f12 f10
     rintro fr V ⟨rfl, f4, f6, f8, f9, f10, f11, f12, hw⟩
     have shw := hw.size
     first | refine zf ?_ | refine zg ?_
     refine rk_blk ?_
     refine rk_region (zm rfl ?_)
     refine zp (o_sub rfl rfl (by omega) (by omega)) ?_
     refine za rfl (wl_nil ?_)
     exact rk_againf (Fr.le_of (by kernel_rfl) (by kernel_rfl) (by repeat' constructor)) ⟨j + 1, _, _, rfl, by omega, by omega, rfl, rfl, f4, f6, f8, f9, by rw [hos]; exact f10, f11, f12, hw⟩ (by omega)
    ·refine rk_seq ?_
     refine zs (zm rfl ?_)
     refine zp (o_ge rfl rfl) ?_
     refine wl_nil ?_
     refine rk_if rfl (fun h32 => absurd h32 (by omega)) (fun h32 => ?_)
     refine rk_exit rfl ?_
     obtain rfl : j = 256 := by omega
     exact rk_tof hj (Fr.le_of (by kernel_rfl) (by kernel_rfl) (by repeat' constructor)) ⟨o, rfl, ho, f8, f10, hw⟩
   clear f4 f6 f8 f f_1 f_2 f_3 hw
   rintro fr V ⟨o, rfl, ho, f8, f10, hw⟩
   have shw := hw.size
   have hO : mlF d a x b y o0 = o := by unfold mlF; exact ho.symm
   rw [hO] at hr2
   clear ho hO
   first | refine zf ?_ | refine zg ?_
   refine zs ?_
   refine wl_r (o_ldFr rfl f10) ?_
   refine wl_call rfl (C_f5near _ (by rfl)) ?_
   rintro v54 w54 ⟨rfl, b54⟩
   have s54 := b54.size
   replace hw := hw.trans (b54.mono hw.size)
   replace f10 := f10.u b54
   replace f8 := f8.u b54
   refine wl_stPt rfl f8 rfl hzp ?_
   rintro w_5 f g_4 e_5
   have s_4 := g_4.size
   replace hw := hw.trans (below_of_grownBy g_4.g hw.size (by omega))
   replace f10 := f10.k g_4.g (ap_some (by omega))
   clear f8
   refine wl_nil ?_
   refine ret_cell rfl rfl Tryz.isAgg110 Tryz.sizeOf110 (by assumption) (by first | exact vI10 | exact b32 | exact ptC_len _ | exact frC_len _ | rfl) ?_
   exact ⟨by rw [hr2], hw⟩
  ·rw [if_neg (fun h => n2 h.2)] at hr2
   refine zs ?_
   refine wl_boxg _ rfl (by rfl) ?_
   rintro g4 w4 f4 b4 i4 i4_1
   have s4 := b4.size
   replace hw := hw.trans (b4.mono hw.size)
   refine wl_boxg _ rfl (by rfl) ?_
   rintro g5 w5 f5 b5 i5 i5_1
   have s5 := b5.size
   replace hw := hw.trans (b5.mono hw.size)
   replace f4 := f4.u b5
   refine wl_boxg _ rfl (by rfl) ?_
   rintro g6 w6 f6 b6 i6 i6_1
   have s6 := b6.size
   replace hw := hw.trans (b6.mono hw.size)
   replace f4 := f4.u b6
   replace f5 := f5.u b6
   refine wl_boxg _ rfl (by rfl) ?_
   rintro g7 w7 f7 b7 i7 i7_1
   have s7 := b7.size
   replace hw := hw.trans (b7.mono hw.size)
   replace f5 := f5.u b7
   replace f4 := f4.u b7
   replace f6 := f6.u b7
   refine wl_allocg [_, _, _, _, _, _, _, _, _, _, _, _, _, _, _, _, _, _, _, _, _, _, _, _, _, _, _, _, _, _, _, _, _, _, _, _, _, _, _, _, _, _, _, _, _, _, _, _, _, _, _, _, _, _, _, _, _, _, _, _, _, _, _, _] Tryz.zeroValue110 (by rfl) ?_
   rintro g8 w8 f8 b8 i8 i8_1
   have s8 := b8.size
   replace hw := hw.trans (b8.mono hw.size)
   replace f6 := f6.u b8
   replace f4 := f4.u b8
   replace f5 := f5.u b8
   replace f7 := f7.u b8
   refine wl_nil (rk_seq (zs ?_))
   refine wl_r (o_ldPt rfl f5) ?_
   refine wl_call rfl (C_f5Check _ hc1) ?_
   rintro v15 w15 ⟨rfl, b15⟩
   have s15 := b15.size
   replace hw := hw.trans (b15.mono hw.size)
   replace f7 := f7.u b15
   replace f5 := f5.u b15
   replace f4 := f4.u b15
   replace f6 := f6.u b15
   replace f8 := f8.u b15
   refine zp (o_ne rfl rfl) ?_
   refine zm rfl ?_
   refine wl_know 17 false rfl (decide_eq_false (by omega)) ?_
   refine wl_r (o_ldPt rfl f7) ?_
   refine wl_call rfl (C_f5Check _ hc2) ?_
   rintro v19 w19 ⟨rfl, b19⟩
   have s19 := b19.size
   replace hw := hw.trans (b19.mono hw.size)
   replace f8 := f8.u b19
   replace f6 := f6.u b19
   replace f4 := f4.u b19
   replace f5 := f5.u b19
   replace f7 := f7.u b19
   refine zp (o_ne rfl rfl) ?_
   refine zp (o_pick_f rfl rfl) ?_
   refine wl_nil ?_
   refine rk_if rfl (fun h21 => ?_) (fun h21 => h21.elim (by omega))
   refine zs ?_
   refine wl_call rfl (C_f5Zero _ hz) ?_
   rintro v22 w22 ⟨rfl, b22⟩
   have s22 := b22.size
   replace hw := hw.trans (b22.mono hw.size)
   replace f7 := f7.u b22
   replace f5 := f5.u b22
   replace f4 := f4.u b22
   replace f6 := f6.u b22
   replace f8 := f8.u b22
   refine wl_stPt rfl f8 rfl (by rfl) ?_
   rintro w_1 f g e_1
   have s := g.size
   replace hw := hw.trans (below_of_grownBy g.g hw.size (by omega))
   replace f6 := f6.k g.g (ap_some (by omega))
   replace f4 := f4.k g.g (ap_some (by omega))
   replace f5 := f5.k g.g (ap_some (by omega))
   replace f7 := f7.k g.g (ap_some (by omega))
   clear f8
   refine wl_nil ?_
   refine ret_cell rfl rfl Tryz.isAgg110 Tryz.sizeOf110 (by assumption) (by first | exact vI10 | exact b32 | exact ptC_len _ | exact frC_len _ | rfl) ?_
   exact ⟨by rw [hr2], hw⟩
 ·rw [if_neg (fun h => n1 h.1)] at hr2
  refine zs ?_
  refine wl_boxg _ rfl (by rfl) ?_
  rintro g4 w4 f4 b4 i4 i4_1
  have s4 := b4.size
  replace hw := hw.trans (b4.mono hw.size)
  refine wl_boxg _ rfl (by rfl) ?_
  rintro g5 w5 f5 b5 i5 i5_1
  have s5 := b5.size
  replace hw := hw.trans (b5.mono hw.size)
  replace f4 := f4.u b5
  refine wl_boxg _ rfl (by rfl) ?_
  rintro g6 w6 f6 b6 i6 i6_1
  have s6 := b6.size
  replace hw := hw.trans (b6.mono hw.size)
  replace f4 := f4.u b6
  replace f5 := f5.u b6
  refine wl_boxg _ rfl (by rfl) ?_
  rintro g7 w7 f7 b7 i7 i7_1
  have s7 := b7.size
  replace hw := hw.trans (b7.mono hw.size)
  replace f5 := f5.u b7
  replace f4 := f4.u b7
  replace f6 := f6.u b7
  refine wl_allocg [_, _, _, _, _, _, _, _, _, _, _, _, _, _, _, _, _, _, _, _, _, _, _, _, _, _, _, _, _, _, _, _, _, _, _, _, _, _, _, _, _, _, _, _, _, _, _, _, _, _, _, _, _, _, _, _, _, _, _, _, _, _, _, _] Tryz.zeroValue110 (by rfl) ?_
  rintro g8 w8 f8 b8 i8 i8_1
  have s8 := b8.size
  replace hw := hw.trans (b8.mono hw.size)
  replace f6 := f6.u b8
  replace f4 := f4.u b8
  replace f5 := f5.u b8
  replace f7 := f7.u b8
  refine wl_nil (rk_seq (zs ?_))
  refine wl_r (o_ldPt rfl f5) ?_
  refine wl_call rfl (C_f5Check _ hc1) ?_
  rintro v15 w15 ⟨rfl, b15⟩
  have s15 := b15.size
  replace hw := hw.trans (b15.mono hw.size)
  replace f7 := f7.u b15
  replace f5 := f5.u b15
  replace f4 := f4.u b15
  replace f6 := f6.u b15
  replace f8 := f8.u b15
  refine zp (o_ne rfl rfl) ?_
  refine zm rfl ?_
  refine wl_know 17 true rfl (decide_eq_true (by omega)) ?_
  refine wl_off (wl_off (wl_off ?_))
  refine zp (o_pick_t rfl rfl) ?_
  refine wl_nil ?_
  refine rk_true rfl ?_
  refine zs ?_
  refine wl_call rfl (C_f5Zero _ hz) ?_
  rintro v22 w22 ⟨rfl, b22⟩
  have s22 := b22.size
  replace hw := hw.trans (b22.mono hw.size)
  replace f8 := f8.u b22
  replace f6 := f6.u b22
  replace f4 := f4.u b22
  replace f5 := f5.u b22
  replace f7 := f7.u b22
  refine wl_stPt rfl f8 rfl (by rfl) ?_
  rintro w_1 f g e_1
  have s := g.size
  replace hw := hw.trans (below_of_grownBy g.g hw.size (by omega))
  replace f7 := f7.k g.g (ap_some (by omega))
  replace f5 := f5.k g.g (ap_some (by omega))
  replace f4 := f4.k g.g (ap_some (by omega))
  replace f6 := f6.k g.g (ap_some (by omega))
  clear f8
  refine wl_nil ?_
  refine ret_cell rfl rfl Tryz.isAgg110 Tryz.sizeOf110 (by assumption) (by first | exact vI10 | exact b32 | exact ptC_len _ | exact frC_len _ | rfl) ?_
  exact ⟨by rw [hr2], hw⟩
set_option maxRecDepth 100000 in
set_option maxHeartbeats 1000000 in
theorem C_f5Mul {a : N32} {p r : Pt} (w : World) (hr : mulPt a p = r) :
  CallsR Tryz.prog 59 [.agg (B8 a.1).toArray, .agg (ptC p).toArray] w fun v w' => v = .agg (ptC r).toArray ∧ Below w.heap.size w w' := by
 have ha := a.2
 obtain ⟨z, hz⟩ : ∃ zz, zeroPt = zz := ⟨_, rfl⟩
 have hr2 : mul2S a p n32z z = r := by rw [← hr, ← hz]; rfl
 clear hr
 refine callsR Tryz.func59 rfl rfl (by kernel_rfl) rfl ?_
 have hw := Below.refl w.heap.size w
 refine zs ?_
 refine wl_boxg _ rfl (by rfl) ?_
 rintro g2 w2 f2 b2 i2 i2_1
 have s2 := b2.size
 replace hw := hw.trans (b2.mono hw.size)
 refine wl_boxg _ rfl (by rfl) ?_
 rintro g3 w3 f3 b3 i3 i3_1
 have s3 := b3.size
 replace hw := hw.trans (b3.mono hw.size)
 replace f2 := f2.u b3
 refine wl_allocg [_, _, _, _, _, _, _, _, _, _, _, _, _, _, _, _, _, _, _, _, _, _, _, _, _, _, _, _, _, _, _, _, _, _, _, _, _, _, _, _, _, _, _, _, _, _, _, _, _, _, _, _, _, _, _, _, _, _, _, _, _, _, _, _] Tryz.zeroValue110 (by rfl) ?_
 rintro g4 w4 f4 b4 i4 i4_1
 have s4 := b4.size
 replace hw := hw.trans (b4.mono hw.size)
 replace f2 := f2.u b4
 replace f3 := f3.u b4
 refine wl_nil (rk_seq ?_)
 refine rk_draw (id := 1) (none) [0, 0, 0, 0, 15, 31] [0, 0, 0, 0, 15, 31] 56 8 [(.s, 0), (.s, 1), (.p, 2), (.c, 3), (.l, 4), (.l, 5)] (by kernel_rfl) (by kernel_rfl) (by kernel_rfl) (by kernel_rfl) (by kernel_rfl) ?_
 replace hw := hw.drew
 replace f3 := f3.d
 replace f2 := f2.d
 replace f4 := f4.d
 refine wl_s (fun _ hk => (o_ldBa Tryz.isAgg108 Tryz.sizeOf108 rfl (f2.u (below_of_grown_none hk)) ha)) ?_
 refine wl_s (fun _ hk => (o_ldPt rfl (f3.u (below_of_grown_none hk)))) ?_
 refine zp (o_num0 rfl) ?_
 refine wl_call rfl (C_f5Zero _ hz) ?_ (hq := .inr fun _ _ h => grown_of_below h.2 _)
 rintro v8 w8 ⟨rfl, b8⟩
 simp only [drew_size] at b8
 have s8 := b8.size
 simp only [drew_size] at s8
 replace hw := hw.trans (b8.mono hw.size)
 replace f4 := f4.u b8
 replace f2 := f2.u b8
 replace f3 := f3.u b8
 refine wl_call rfl (C_f5Mul2 _ hr2) ?_
 rintro v9 w9 ⟨rfl, b9⟩
 have s9 := b9.size
 replace hw := hw.trans (b9.mono hw.size)
 replace f3 := f3.u b9
 replace f2 := f2.u b9
 replace f4 := f4.u b9
 refine wl_stPt rfl f4 rfl (by rfl) ?_
 rintro w_1 f g e
 have s := g.size
 replace hw := hw.trans (below_of_grownBy g.g hw.size (by omega))
 replace f2 := f2.k g.g (ap_some (by omega))
 replace f3 := f3.k g.g (ap_some (by omega))
 clear f4
 refine wl_nild ?_
 refine ret_cell rfl rfl Tryz.isAgg110 Tryz.sizeOf110 (by assumption) (by first | exact vI10 | exact b32 | exact ptC_len _ | exact frC_len _ | rfl) ?_
 exact ⟨rfl, hw⟩
set_option maxRecDepth 100000 in
set_option maxHeartbeats 1000000 in
theorem C_f5Bytes {p : Pt} {r : N32 × Int} (w : World) (hr : bytesPt p = r) :
  CallsR Tryz.prog 58 [.agg (ptC p).toArray] w fun v w' => v = .tuple #[.agg (B8 r.1.1).toArray, .int .i64 r.2] ∧ Below w.heap.size w w' := by
 obtain ⟨c1, hc1⟩ : ∃ zz, ckS p = zz := ⟨_, rfl⟩
 have hr2 : r = if c1 = 0 then (if oddS p.1 then p.2.put 31 (lo8 (((p.2.at 31).toNat : Int) + 128)) else p.2, 0) else (n32z, 2) := by rw [← hr, ← hc1]; rfl
 clear hr
 have hp2 := p.2.2
 refine callsR Tryz.func58 rfl rfl (by kernel_rfl) rfl ?_
 have hw := Below.refl w.heap.size w
 by_cases n1 : c1 = 0
 ·rw [if_pos n1] at hr2
  refine zs ?_
  refine wl_boxg _ rfl (by rfl) ?_
  rintro g1 w1 f1 b1 i1 i1_1
  have s1 := b1.size
  replace hw := hw.trans (b1.mono hw.size)
  refine wl_allocB Tryz.underlying41 Tryz.zeroValue41 (by rfl) ?_
  rintro g2 w2 f2 b2 i2 i2_1
  have s2 := b2.size
  replace hw := hw.trans (b2.mono hw.size)
  replace f1 := f1.u b2
  refine za rfl (wl_nil (rk_seq (zs ?_)))
  refine wl_r (o_ldPt rfl f1) ?_
  refine wl_call rfl (C_f5Check _ hc1) ?_
  rintro v6 w6 ⟨rfl, b6⟩
  have s6 := b6.size
  replace hw := hw.trans (b6.mono hw.size)
  replace f1 := f1.u b6
  replace f2 := f2.u b6
  refine zp (o_ne rfl rfl) ?_
  refine wl_nil ?_
  refine rk_if rfl (fun h7 => absurd h7 (by omega)) (fun h7 => ?_)
  refine rk_skip (zs ?_)
  refine zp (o_faddr (s := 110) (i := 1) (off := 32) Tryz.underlying110 rfl Tryz.sizeOf108 rfl rfl rfl) ?_
  refine wl_r (o_ldPtY rfl f1) ?_
  refine wl_allocB Tryz.underlying41 Tryz.zeroValue41 (by rfl) ?_
  rintro g4 w4 f4 b4 i4 i4_1
  have s4 := b4.size
  replace hw := hw.trans (b4.mono hw.size)
  replace f2 := f2.u b4
  replace f1 := f1.u b4
  refine wl_stBa Tryz.sizeOf41 rfl f4 rfl hp2 (by rfl) ?_
  rintro w_1 f g e
  have s := g.size
  replace hw := hw.trans (below_of_grownBy g.g hw.size (by omega))
  replace f1 := f1.k g.g (ap_some (by omega))
  replace f2 := f2.k g.g (ap_some (by omega))
  clear f4
  refine wl_nil (rk_seq (zs ?_))
  refine zp (o_faddr (s := 110) (i := 0) (off := 0) Tryz.underlying110 rfl Tryz.sizeOf108 rfl rfl rfl) ?_
  refine wl_r (o_ldPtX rfl f1) ?_
  refine wl_call rfl (C_f3Odd _) ?_
  rintro v13 w13 ⟨rfl, b13⟩
  have s13 := b13.size
  replace hw := hw.trans (b13.mono hw.size)
  replace f2 := f2.u b13
  replace f1 := f1.u b13
  replace f := f.u b13
  refine wl_nil ?_
  refine rk_joink2 (fun fb fr V => fr = [] ++ fb.drop 1 ∧ Blk V g2 41 (B8 (List.replicate 32 0)) ∧ Blk V g4 41 (B8 r.1.1) ∧ r.2 = 0 ∧ Below w.heap.size w V) ?_ (fun ks hj => ?_)
  rotate_left
  ·by_cases ho : oddS p.1
   ·rw [if_pos ho] at hr2
    rw [decide_eq_true ho]
    refine rk_true rfl ?_
    refine rk_region ?_
    refine zp (o_iaddrP (31) Tryz.underlying41 Tryz.sizeOf5 rfl rfl (by omega) (by omega)) ?_
    refine wl_r (o_ldD Tryz.isAgg5 rfl f (by omega)) ?_
    refine zp (o_add8 rfl rfl) ?_
    refine zp (o_iaddrP (31) Tryz.underlying41 Tryz.sizeOf5 rfl rfl (by omega) (by omega)) ?_
    refine wl_stB Tryz.sizeOf5 rfl f rfl (by omega) ?_
    rintro w_2 f_1 g_1 e_1
    have s_1 := g_1.size
    replace hw := hw.trans (below_of_grownBy g_1.g hw.size (by omega))
    replace f1 := f1.k g_1.g (ap_some (by omega))
    replace f2 := f2.k g_1.g (ap_some (by omega))
    clear f
    refine wl_nil ?_
    exact rk_tof hj (Fr.le_of (by kernel_rfl) (by kernel_rfl) (by repeat' constructor)) ⟨rfl, f2, by rw [hr2]; assumption, by rw [hr2], hw⟩
   ·rw [if_neg ho] at hr2
    rw [decide_eq_false ho]
    refine rk_false rfl ?_
    refine rk_skip ?_
    exact rk_tof hj (Fr.le_of (by kernel_rfl) (by kernel_rfl) (by repeat' constructor)) ⟨rfl, f2, by rw [hr2]; assumption, by rw [hr2], hw⟩
  clear hw f1 f2 f
  rintro fr V ⟨rfl, f2, f4, h0, hw⟩
  have shw := hw.size
  have hrl := r.1.2
  first | refine zf ?_ | refine zg ?_
  refine zs ?_
  refine wl_r (o_ldBa Tryz.isAgg41 Tryz.sizeOf41 rfl f4 hrl) ?_
  refine wl_stBa Tryz.sizeOf41 rfl f2 rfl hrl (by rfl) ?_
  rintro w_2 f g_1 e_1
  have s_1 := g_1.size
  replace hw := hw.trans (below_of_grownBy g_1.g hw.size (by omega))
  replace f4 := f4.k g_1.g (ap_some (by omega))
  clear f2
  refine za rfl (wl_nil ?_)
  refine ret_any rfl (.cell rfl Tryz.isAgg41 Tryz.sizeOf41 (by assumption) (by first | exact vI10 | exact b32 | exact ptC_len _ | exact frC_len _ | rfl) <| .tmp rfl <| .nil) (by simp) ?_
  exact ⟨by rw [h0], hw⟩
 ·rw [if_neg n1] at hr2
  refine zs ?_
  refine wl_boxg _ rfl (by rfl) ?_
  rintro g1 w1 f1 b1 i1 i1_1
  have s1 := b1.size
  replace hw := hw.trans (b1.mono hw.size)
  refine wl_allocB Tryz.underlying41 Tryz.zeroValue41 (by rfl) ?_
  rintro g2 w2 f2 b2 i2 i2_1
  have s2 := b2.size
  replace hw := hw.trans (b2.mono hw.size)
  replace f1 := f1.u b2
  refine za rfl (wl_nil (rk_seq (zs ?_)))
  refine wl_r (o_ldPt rfl f1) ?_
  refine wl_call rfl (C_f5Check _ hc1) ?_
  rintro v6 w6 ⟨rfl, b6⟩
  have s6 := b6.size
  replace hw := hw.trans (b6.mono hw.size)
  replace f1 := f1.u b6
  replace f2 := f2.u b6
  refine zp (o_ne rfl rfl) ?_
  refine wl_nil ?_
  refine rk_if rfl (fun h7 => ?_) (fun h7 => h7.elim (by omega))
  refine zs ?_
  refine zp (o_buildga [_, _, _, _, _, _, _, _, _, _, _, _, _, _, _, _, _, _, _, _, _, _, _, _, _, _, _, _, _, _, _, _] Tryz.underlying41 Tryz.sizeOf5 Tryz.zeroValue41 (by rfl) (by rfl) rfl (by rfl) (by rfl) (fun _ => by kernel_rfl)) ?_
  refine wl_storega Tryz.sizeOf41 rfl rfl (by rfl) (by decide) f2 (by rfl) ?_
  rintro w_1 f g e
  have s := g.size
  replace hw := hw.trans (below_of_grownBy g.g hw.size (by omega))
  replace f1 := f1.k g.g (ap_some (by omega))
  clear f2
  refine za rfl (wl_nil ?_)
  refine ret_any rfl (.cell rfl Tryz.isAgg41 Tryz.sizeOf41 (by assumption) (by first | exact vI10 | exact b32 | exact ptC_len _ | exact frC_len _ | rfl) <| .tmp rfl <| .nil) (by simp) ?_
  exact ⟨by rw [hr2]; rfl, hw⟩
end Go.Proofs.YtahkeoegbjopfaaGreat
namespace Go.Proofs.YtahkeoegbjopfaaGreat
set_option maxRecDepth 100000
open Go.RowKit
def n32L : N32 := ⟨[237, 211, 245, 92, 26, 99, 18, 88, 214, 156, 247, 162, 222, 249, 222, 20, 0, 0, 0, 0, 0, 0, 0, 0, 0, 0, 0, 0, 0, 0, 0, 16], rfl⟩
set_option maxRecDepth 100000 in
theorem C_f4L (w : World) :
  CallsR Tryz.prog 172 [] w fun v w' => ∃ r : N32, v = .agg (B8 r.1).toArray ∧ Below w.heap.size w w' := by
 refine callsR Tryz.func172 rfl rfl (by kernel_rfl) rfl ?_
 have hw := Below.refl w.heap.size w
 refine zs ?_
 refine wl_allocB Tryz.underlying108 Tryz.zeroValue108 (by rfl) ?_
 rintro g0 w0 f0 b0 i0 i0_1
 have s0 := b0.size
 replace hw := hw.trans (b0.mono hw.size)
 refine wl_nil (zs ?_)
 refine zp (o_buildga [_, _, _, _, _, _, _, _, _, _, _, _, _, _, _, _, _, _, _, _, _, _, _, _, _, _, _, _, _, _, _, _] Tryz.underlying108 Tryz.sizeOf5 Tryz.zeroValue108 (by rfl) (by rfl) rfl (by rfl) (by rfl) (fun _ => by kernel_rfl)) ?_
 refine wl_storega Tryz.sizeOf108 rfl rfl (by rfl) (by decide) f0 (by rfl) ?_
 rintro w_1 f g e
 have s := g.size
 replace hw := hw.trans (below_of_grownBy g.g hw.size (by omega))
 clear f0
 refine wl_nil ?_
 refine ret_cell rfl rfl Tryz.isAgg108 Tryz.sizeOf108 (by assumption) (by first | exact vI10 | exact b32 | exact ptC_len _ | exact frC_len _ | rfl) ?_
 exact ⟨n32L, rfl, hw⟩
set_option maxRecDepth 100000 in
theorem C_f4below {a b : N32} (w : World) :
  CallsR Tryz.prog 171 [.agg (B8 a.1).toArray, .agg (B8 b.1).toArray] w fun v w' => ∃ q, v = .bool q ∧ Below w.heap.size w w' := by
 have ha := a.2
 have hb := b.2
 refine callsR Tryz.func171 rfl rfl (by kernel_rfl) rfl ?_
 have hw := Below.refl w.heap.size w
 refine zs ?_
 refine wl_boxg _ rfl (by rfl) ?_
 rintro g2 w2 f2 b2 i2 i2_1
 have s2 := b2.size
 replace hw := hw.trans (b2.mono hw.size)
 refine wl_boxg _ rfl (by rfl) ?_
 rintro g3 w3 f3 b3 i3 i3_1
 have s3 := b3.size
 replace hw := hw.trans (b3.mono hw.size)
 replace f2 := f2.u b3
 refine za rfl (wl_nil (rk_seq (zs (za rfl (wl_nil (rk_block ?_))))))
 refine rk_joinf (fun fb fr V => fr = [] ++ fb.drop 1 ∧ Below w.heap.size w V) ?_ (fun ks hj => ?_)
 rotate_left
 ·refine rk_loopf (fun fb k fr V => ∃ (j : Nat) (v : Int), fr = [(5, .int .i64 v)] ++ fb.drop 1 ∧ v = 31 - (j : Int) ∧ j ≤ 32 ∧ k = 32 - j ∧ Blk V g2 108 (B8 a.1) ∧ Blk V g3 108 (B8 b.1) ∧ Below w.heap.size w V) (n := 32) (Fr.le_of (by kernel_rfl) (by kernel_rfl) (by repeat' constructor)) ⟨0, _, rfl, rfl, by omega, rfl, f2, f3, hw⟩ ?_
  clear f2 f3 hw
  rintro k fr V ⟨j, v, rfl, rfl, hj2, rfl, f2, f3, hw⟩
  have shw := hw.size
  first | refine zf ?_ | refine zg ?_
  by_cases hjl : j < 32
  ·refine rk_seq ?_
   refine zs (zm rfl ?_)
   refine zp (o_ge rfl rfl) ?_
   refine wl_nil ?_
   refine rk_if rfl (fun h7 => ?_) (fun h7 => h7.elim (by omega))
   refine rk_skip (rk_seq (rk_block (rk_seq ?_)))
   refine rk_draw (id := 4) (none) [0, 1, 2, 0, 8, 16, 36] [0, 1, 3, 0, 8, 24, 63] 0 0 [(.p, 0), (.p, 1), (.r, 2), (.p, 3), (.p, 4), (.r, 5), (.p, 6)] (by kernel_rfl) (by kernel_rfl) (by kernel_rfl) (by kernel_rfl) (by kernel_rfl) ?_
   replace hw := hw.drew
   replace f3 := f3.d
   replace f2 := f2.d
   refine zm rfl ?_
   refine zp (o_iaddrP (31 - j) Tryz.underlying108 Tryz.sizeOf5 rfl rfl (by omega) (by omega)) ?_
   refine wl_r (o_ldD Tryz.isAgg5 rfl f2 (by omega)) ?_
   refine zm rfl ?_
   refine zp (o_iaddrP (31 - j) Tryz.underlying108 Tryz.sizeOf5 rfl rfl (by omega) (by omega)) ?_
   refine wl_r (o_ldD Tryz.isAgg5 rfl f3 (by omega)) ?_
   refine zp (o_ne rfl rfl) ?_
   refine wl_nild ?_
   refine rk_if rfl (fun h16 => ?_) (fun h16 => ?_)
   ·refine rk_seq ?_
    refine rk_draw (id := 5) (none) [0, 1, 2, 0, 8, 16, 36, 127] [0, 1, 3, 0, 8, 24, 63, 127] 0 0 [(.p, 0), (.p, 1), (.r, 2), (.p, 3), (.p, 4), (.r, 5), (.p, 6), (.p, 7)] (by kernel_rfl) (by kernel_rfl) (by kernel_rfl) (by kernel_rfl) (by kernel_rfl) ?_
    replace hw := hw.drew
    replace f2 := f2.d
    replace f3 := f3.d
    refine zm rfl ?_
    refine zp (o_iaddrP (31 - j) Tryz.underlying108 Tryz.sizeOf5 rfl rfl (by omega) (by omega)) ?_
    refine wl_r (o_ldD Tryz.isAgg5 rfl f2 (by omega)) ?_
    refine zm rfl ?_
    refine zp (o_iaddrP (31 - j) Tryz.underlying108 Tryz.sizeOf5 rfl rfl (by omega) (by omega)) ?_
    refine wl_r (o_ldD Tryz.isAgg5 rfl f3 (by omega)) ?_
    refine zp (o_lt rfl rfl) ?_
    refine za rfl ?_
    refine wl_nild ?_
    refine ret1 rfl rfl ?_
    exact ⟨_, rfl, hw⟩
   ·refine rk_skip ?_
    refine rk_blk ?_
    refine rk_region (zm rfl ?_)
    refine zp (o_sub rfl rfl (by omega) (by omega)) ?_
    refine za rfl (wl_nil ?_)
    exact rk_againf (Fr.le_of (by kernel_rfl) (by kernel_rfl) (by repeat' constructor)) ⟨j + 1, _, rfl, by omega, by omega, rfl, f2, f3, hw⟩ (by omega)
  ·refine rk_seq ?_
   refine zs (zm rfl ?_)
   refine zp (o_ge rfl rfl) ?_
   refine wl_nil ?_
   refine rk_if rfl (fun h7 => absurd h7 (by omega)) (fun h7 => ?_)
   refine rk_exit rfl ?_
   exact rk_tof hj (Fr.le_of (by kernel_rfl) (by kernel_rfl) (by repeat' constructor)) ⟨rfl, hw⟩
 clear f2 f3 hw
 rintro fr V ⟨rfl, hw⟩
 first | refine zf ?_ | refine zg ?_
 refine zs (za rfl (wl_nil ?_))
 refine ret1 rfl rfl ?_
 exact ⟨_, rfl, hw⟩
set_option maxRecDepth 100000 in
set_option maxHeartbeats 1000000 in
theorem C_f4plus {a b : N32} (w : World) :
  CallsR Tryz.prog 140 [.agg (B8 a.1).toArray, .agg (B8 b.1).toArray] w fun v w' => ∃ r : N32, v = .agg (B8 r.1).toArray ∧ Below w.heap.size w w' := by
 have ha := a.2
 have hb := b.2
 refine callsR Tryz.func140 rfl rfl (by kernel_rfl) rfl ?_
 have hw := Below.refl w.heap.size w
 refine zs ?_
 refine wl_boxg _ rfl (by rfl) ?_
 rintro g2 w2 f2 b2 i2 i2_1
 have s2 := b2.size
 replace hw := hw.trans (b2.mono hw.size)
 refine wl_boxg _ rfl (by rfl) ?_
 rintro g3 w3 f3 b3 i3 i3_1
 have s3 := b3.size
 replace hw := hw.trans (b3.mono hw.size)
 replace f2 := f2.u b3
 refine wl_allocB Tryz.underlying108 Tryz.zeroValue108 (by rfl) ?_
 rintro g4 w4 f4 b4 i4 i4_1
 have s4 := b4.size
 replace hw := hw.trans (b4.mono hw.size)
 replace f2 := f2.u b4
 replace f3 := f3.u b4
 refine wl_nil (zs ?_)
 refine wl_allocB Tryz.underlying108 Tryz.zeroValue108 (by rfl) ?_
 rintro g5 w5 f5 b5 i5 i5_1
 have s5 := b5.size
 replace hw := hw.trans (b5.mono hw.size)
 replace f3 := f3.u b5
 replace f2 := f2.u b5
 replace f4 := f4.u b5
 refine wl_nil (zs (za rfl (wl_nil (rk_seq (zs (za rfl (wl_nil (rk_block ?_))))))))
 have hg23 : g2 < g3 := by omega
 have hg34 : g3 < g4 := by omega
 have hg45 : g4 < g5 := by omega
 refine rk_joinf (fun fb fr V => ∃ (c : Int) (o : N32), fr = [(6, .int .i64 c)] ++ fb.drop 2 ∧ Blk V g4 108 (B8 (List.replicate 32 0)) ∧ Blk V g5 108 (B8 o.1) ∧ Below w.heap.size w V) ?_ (fun ks hj => ?_)
 rotate_left
 ·refine rk_loopf (fun fb k fr V => ∃ (i : Nat) (v c : Int) (o : N32), fr = [(7, .int .i64 v), (6, .int .i64 c)] ++ fb.drop 2 ∧ v = i ∧ i ≤ 32 ∧ k = 32 - i ∧ Blk V g2 108 (B8 a.1) ∧ Blk V g3 108 (B8 b.1) ∧ Blk V g4 108 (B8 (List.replicate 32 0)) ∧ Blk V g5 108 (B8 o.1) ∧ Below w.heap.size w V) (n := 32) (Fr.le_of (by kernel_rfl) (by kernel_rfl) (by repeat' constructor)) ⟨0, _, _, n32z, rfl, rfl, by omega, rfl, f2, f3, f4, f5, hw⟩ ?_
  clear f2 f3 f4 f5 hw
  rintro k fr V ⟨i, v, c, o, rfl, rfl, hi, rfl, f2, f3, f4, f5, hw⟩
  have shw := hw.size
  have hol := o.2
  first | refine zf ?_ | refine zg ?_
  by_cases hil : i < 32
  ·refine rk_seq ?_
   refine zs (zm rfl ?_)
   refine zp (o_lt rfl rfl) ?_
   refine wl_nil ?_
   refine rk_if rfl (fun h11 => ?_) (fun h11 => h11.elim (by omega))
   refine rk_skip (rk_seq (rk_block (rk_seq ?_)))
   refine rk_draw (id := 6) (none) [0, 0, 2, 4, 8, 17, 0, 64, 128, 256, 544, 2047] [0, 0, 2, 6, 14, 31, 0, 64, 192, 448, 1023, 2047] 0 0 [(.p, 0), (.p, 1), (.p, 2), (.r, 3), (.p, 4), (.p, 5), (.p, 6), (.p, 7), (.r, 8), (.p, 9), (.p, 10), (.p, 11)] (by kernel_rfl) (by kernel_rfl) (by kernel_rfl) (by kernel_rfl) (by kernel_rfl) ?_
   replace hw := hw.drew
   replace f5 := f5.d
   replace f4 := f4.d
   replace f3 := f3.d
   replace f2 := f2.d
   refine zm rfl (zm rfl ?_)
   refine zp (o_iaddrP (i) Tryz.underlying108 Tryz.sizeOf5 rfl rfl rfl (by omega)) ?_
   refine wl_r (o_ldD Tryz.isAgg5 rfl f2 (by omega)) ?_
   refine zp (o_conv8I Tryz.underlying5 Tryz.underlying3 rfl) ?_
   refine zp (o_addI rfl rfl) ?_
   refine zm rfl ?_
   refine zp (o_iaddrP (i) Tryz.underlying108 Tryz.sizeOf5 rfl rfl rfl (by omega)) ?_
   refine wl_r (o_ldD Tryz.isAgg5 rfl f3 (by omega)) ?_
   refine zp (o_conv8I Tryz.underlying5 Tryz.underlying3 rfl) ?_
   refine zp (o_addI rfl rfl) ?_
   refine za rfl ?_
   refine wl_nild ?_
   refine zs (zm rfl (zm rfl ?_))
   refine zp (o_remz rfl rfl (by omega)) ?_
   refine zp (o_convI8 Tryz.underlying3 Tryz.underlying5 rfl) ?_
   refine zp (o_iaddrP (i) Tryz.underlying108 Tryz.sizeOf5 rfl rfl rfl (by omega)) ?_
   refine wl_stB Tryz.sizeOf5 rfl f5 rfl (by omega) ?_
   rintro w_1 f g e
   simp only [drew_size] at e
   have s := g.size
   simp only [drew_size] at s
   replace hw := hw.trans (below_of_grownBy g.g hw.size (by omega))
   replace f2 := f2.k g.g (ap_some (by omega))
   replace f3 := f3.k g.g (ap_some (by omega))
   replace f4 := f4.k g.g (ap_some (by omega))
   clear f5
   refine wl_nil (rk_region (zm rfl ?_))
   refine zp (o_quoI rfl rfl (by omega)) ?_
   refine za rfl (wl_nil ?_)
   refine rk_blk ?_
   refine rk_region (zm rfl ?_)
   refine zp (o_add rfl rfl (by omega) (by omega)) ?_
   refine za rfl (wl_nil ?_)
   exact rk_againf (Fr.le_of (by kernel_rfl) (by kernel_rfl) (by repeat' constructor)) ⟨i + 1, _, _, o.put i _, rfl, by omega, by omega, rfl, f2, f3, f4, f, hw⟩ (by omega)
  ·refine rk_seq ?_
   refine zs (zm rfl ?_)
   refine zp (o_lt rfl rfl) ?_
   refine wl_nil ?_
   refine rk_if rfl (fun h11 => absurd h11 (by omega)) (fun h11 => ?_)
   refine rk_exit rfl ?_
   exact rk_tof hj (Fr.le_of (by kernel_rfl) (by kernel_rfl) (by repeat' constructor)) ⟨c, o, rfl, f4, f5, hw⟩
 clear f2 f3 f4 f5 hw
 rintro fr V ⟨c, o, rfl, f4, f5, hw⟩
 have shw := hw.size
 have hol := o.2
 have hl4 := f4.lt
 have hl5 := f5.lt
 first | refine zf ?_ | refine zg ?_
 refine rk_seq (rk_seq ?_)
 refine rk_draw (id := 9) (none) [0, 0, 3] [0, 0, 3] 6 2 [(.s, 0), (.c, 1), (.l, 2)] (by kernel_rfl) (by kernel_rfl) (by kernel_rfl) (by kernel_rfl) (by kernel_rfl) ?_
 replace hw := hw.drew
 replace f5 := f5.d
 replace f4 := f4.d
 refine wl_s (fun _ hk => (o_ldBa Tryz.isAgg108 Tryz.sizeOf108 rfl (f5.u (below_of_grown_none hk)) hol)) ?_
 refine wl_call rfl (C_f4L _) ?_ (hq := .inr fun _ _ h => grown_of_below h.choose_spec.2 _)
 rintro v33 w33 ⟨r33, ⟨rfl, b33⟩⟩
 simp only [drew_size] at b33
 have s33 := b33.size
 simp only [drew_size] at s33
 replace hw := hw.trans (b33.mono hw.size)
 replace f4 := f4.u b33
 replace f5 := f5.u b33
 refine wl_call rfl (C_f4below _) ?_
 rintro v34 w34 ⟨q34, ⟨rfl, b34⟩⟩
 have s34 := b34.size
 replace hw := hw.trans (b34.mono hw.size)
 replace f5 := f5.u b34
 replace f4 := f4.u b34
 refine wl_nild ?_
 cases q34 with
 | true =>
  refine rk_true rfl ?_
  refine zs ?_
  refine wl_r (o_ldBa Tryz.isAgg108 Tryz.sizeOf108 rfl f5 hol) ?_
  refine wl_stBa Tryz.sizeOf108 rfl f4 rfl hol (by rfl) ?_
  rintro w_1 f g e
  have s := g.size
  replace hw := hw.trans (below_of_grownBy g.g hw.size (by omega))
  replace f5 := f5.k g.g (ap_some (by omega))
  clear f4
  refine wl_nil ?_
  refine ret_cell rfl rfl Tryz.isAgg108 Tryz.sizeOf108 (by assumption) (by first | exact vI10 | exact b32 | exact ptC_len _ | exact frC_len _ | rfl) ?_
  exact ⟨o, rfl, hw⟩
 | false =>
  refine rk_false rfl ?_
  refine rk_skip (zs ?_)
  refine wl_call rfl (C_f4L _) ?_
  rintro v36 w36 ⟨r36, ⟨rfl, b36⟩⟩
  have s36 := b36.size
  replace hw := hw.trans (b36.mono hw.size)
  replace f4 := f4.u b36
  replace f5 := f5.u b36
  refine wl_allocB Tryz.underlying108 Tryz.zeroValue108 (by rfl) ?_
  rintro g8 w8 f8 b8 i8 i8_1
  have s8 := b8.size
  replace hw := hw.trans (b8.mono hw.size)
  replace f5 := f5.u b8
  replace f4 := f4.u b8
  refine wl_stBa Tryz.sizeOf108 rfl f8 rfl (by omega) (by rfl) ?_
  rintro w_1 f g e
  have s := g.size
  replace hw := hw.trans (below_of_grownBy g.g hw.size (by omega))
  replace f4 := f4.k g.g (ap_some (by omega))
  replace f5 := f5.k g.g (ap_some (by omega))
  clear f8
  refine wl_nil (zs (za rfl (wl_nil (rk_seq (zs (za rfl (wl_nil (rk_block ?_))))))))
  refine rk_joinf (fun fb fr V => ∃ (c : Int) (o : N32), fr = [(6, .int .i64 c)] ++ fb.drop 2 ∧ Blk V g4 108 (B8 (List.replicate 32 0)) ∧ Blk V g5 108 (B8 o.1) ∧ Below w.heap.size w V) ?_ (fun ks hj => ?_)
  rotate_left
  ·refine rk_loopf (fun fb k fr V => ∃ (i : Nat) (v c : Int) (o : N32), fr = [(9, .int .i64 v), (6, .int .i64 c)] ++ fb.drop 2 ∧ v = i ∧ i ≤ 32 ∧ k = 32 - i ∧ Blk V g8 108 (B8 r36.1) ∧ Blk V g4 108 (B8 (List.replicate 32 0)) ∧ Blk V g5 108 (B8 o.1) ∧ Below w.heap.size w V) (n := 32) (Fr.le_of (by kernel_rfl) (by kernel_rfl) (by repeat' constructor)) ⟨0, _, _, o, rfl, rfl, by omega, rfl, f, f4, f5, hw⟩ ?_
   have hg48 : g4 < g8 := by omega
   have hg58 : g5 < g8 := by omega
   have hr36 := r36.2
   clear f f4 f5 hw
   rintro k fr V ⟨i, v, c, o, rfl, rfl, hi, rfl, f8, f4, f5, hw⟩
   have shw := hw.size
   have hol := o.2
   first | refine zf ?_ | refine zg ?_
   by_cases hil : i < 32
   ·refine rk_seq ?_
    refine zs (zm rfl ?_)
    refine zp (o_lt rfl rfl) ?_
    refine wl_nil ?_
    refine rk_if rfl (fun h38 => ?_) (fun h38 => h38.elim (by omega))
    refine rk_skip (rk_seq (rk_block (rk_seq ?_)))
    refine rk_draw (id := 16) (none) [0, 1, 2, 4, 0, 16, 32, 64, 136, 0, 768, 2047] [0, 1, 3, 7, 0, 16, 48, 112, 255, 0, 1023, 2047] 0 0 [(.p, 0), (.p, 1), (.r, 2), (.p, 3), (.p, 4), (.p, 5), (.r, 6), (.p, 7), (.p, 8), (.p, 9), (.p, 10), (.p, 11)] (by kernel_rfl) (by kernel_rfl) (by kernel_rfl) (by kernel_rfl) (by kernel_rfl) ?_
    replace hw := hw.drew
    replace f5 := f5.d
    replace f4 := f4.d
    replace f8 := f8.d
    refine zm rfl ?_
    refine zp (o_iaddrP (i) Tryz.underlying108 Tryz.sizeOf5 rfl rfl rfl (by omega)) ?_
    refine wl_r (o_ldD Tryz.isAgg5 rfl f5 (by omega)) ?_
    refine zp (o_conv8I Tryz.underlying5 Tryz.underlying3 rfl) ?_
    refine zm rfl ?_
    refine zp (o_iaddrP (i) Tryz.underlying108 Tryz.sizeOf5 rfl rfl rfl (by omega)) ?_
    refine wl_r (o_ldD Tryz.isAgg5 rfl f8 (by omega)) ?_
    refine zp (o_conv8I Tryz.underlying5 Tryz.underlying3 rfl) ?_
    refine zp (o_subI rfl rfl) ?_
    refine zm rfl ?_
    refine zp (o_addI rfl rfl) ?_
    refine za rfl ?_
    refine wl_nild ?_
    refine zs (zm rfl (zm rfl ?_))
    refine zp (o_addI rfl rfl) ?_
    refine zp (o_remz rfl rfl (by omega)) ?_
    refine zp (o_convI8 Tryz.underlying3 Tryz.underlying5 rfl) ?_
    refine zp (o_iaddrP (i) Tryz.underlying108 Tryz.sizeOf5 rfl rfl rfl (by omega)) ?_
    refine wl_stB Tryz.sizeOf5 rfl f5 rfl (by omega) ?_
    rintro w_2 f g_1 e_1
    simp only [drew_size] at e_1
    have s_1 := g_1.size
    simp only [drew_size] at s_1
    replace hw := hw.trans (below_of_grownBy g_1.g hw.size (by omega))
    replace f8 := f8.k g_1.g (ap_some (by omega))
    replace f4 := f4.k g_1.g (ap_some (by omega))
    clear f5
    refine wl_nil (zs (zm rfl ?_))
    refine zp (o_lt rfl rfl) ?_
    refine wl_nil ?_
    refine rk_if rfl (fun h59 => ?_) (fun h59 => ?_)
    ·refine rk_region ?_
     refine za rfl (wl_nil ?_)
     refine rk_blk ?_
     refine rk_region (zm rfl ?_)
     refine zp (o_add rfl rfl (by omega) (by omega)) ?_
     refine za rfl (wl_nil ?_)
     exact rk_againf (Fr.le_of (by kernel_rfl) (by kernel_rfl) (by repeat' constructor)) ⟨i + 1, _, _, o.put i _, rfl, by omega, by omega, rfl, f8, f4, f, hw⟩ (by omega)
    ·refine rk_region ?_
     refine za rfl (wl_nil ?_)
     refine rk_blk ?_
     refine rk_region (zm rfl ?_)
     refine zp (o_add rfl rfl (by omega) (by omega)) ?_
     refine za rfl (wl_nil ?_)
     exact rk_againf (Fr.le_of (by kernel_rfl) (by kernel_rfl) (by repeat' constructor)) ⟨i + 1, _, _, o.put i _, rfl, by omega, by omega, rfl, f8, f4, f, hw⟩ (by omega)
   ·refine rk_seq ?_
    refine zs (zm rfl ?_)
    refine zp (o_lt rfl rfl) ?_
    refine wl_nil ?_
    refine rk_if rfl (fun h38 => absurd h38 (by omega)) (fun h38 => ?_)
    refine rk_exit rfl ?_
    exact rk_tof hj (Fr.le_of (by kernel_rfl) (by kernel_rfl) (by repeat' constructor)) ⟨c, o, rfl, f4, f5, hw⟩
  clear f f4 f5 hw
  rintro fr V ⟨c, o, rfl, f4, f5, hw⟩
  have shw := hw.size
  have hol := o.2
  first | refine zf ?_ | refine zg ?_
  refine zs ?_
  refine wl_r (o_ldBa Tryz.isAgg108 Tryz.sizeOf108 rfl f5 hol) ?_
  refine wl_stBa Tryz.sizeOf108 rfl f4 rfl hol (by rfl) ?_
  rintro w_2 f g_1 e_1
  have s_1 := g_1.size
  replace hw := hw.trans (below_of_grownBy g_1.g hw.size (by omega))
  replace f5 := f5.k g_1.g (ap_some (by omega))
  clear f4
  refine wl_nil ?_
  refine ret_cell rfl rfl Tryz.isAgg108 Tryz.sizeOf108 (by assumption) (by first | exact vI10 | exact b32 | exact ptC_len _ | exact frC_len _ | rfl) ?_
  exact ⟨o, rfl, hw⟩
end Go.Proofs.YtahkeoegbjopfaaGreat
namespace Go.Proofs.YtahkeoegbjopfaaGreat
set_option maxRecDepth 100000
abbrev By := List UInt8
end Go.Proofs.YtahkeoegbjopfaaGreat
namespace Go.Proofs
open Go.Shelf
def Tryz.lays131_ren : Go.Shelf.Ren := ⟨fun | 131 => 180 | 126 => 186 | n => n, fun | 5 => 5 | 3 => 3 | 9 => 9 | n => n, fun | n => n⟩
theorem Tryz.lays131 : Go.Proofs.Lays.n131 Tryz.prog Tryz.lays131_ren := {
 mixed := by kernel_rfl
 f126 := Tryz.func186.trans (congrArg some (by kernel_rfl))
 f131 := Tryz.func180.trans (congrArg some (by kernel_rfl))
 t3 := Tryz.underlying3
 a3 := Tryz.isAgg3
 z3 := Tryz.sizeOf3
 v3 := Tryz.zeroValue3
 t5 := Tryz.underlying5
 a5 := Tryz.isAgg5
 z5 := Tryz.sizeOf5
 v5 := Tryz.zeroValue5
 t9 := Tryz.underlying9
 a9 := Tryz.isAgg9
 z9 := Tryz.sizeOf9
 v9 := Tryz.zeroValue9 }
theorem Tryz.bits_LeadingZeros8 (x : Int) (w : World) (h0 : 0 ≤ x) (h1 : x ≤ 255) :
  Calls Tryz.prog 180 #[.int .u8 x] w fun e w' => e = .returned (.int .i64 (8 - (Lib.bitLen x.toNat : Int))) ∧ w' = w := Any.bits_LeadingZeros8 Tryz.lays131 x w h0 h1
def Tryz.lays129_ren : Go.Shelf.Ren := ⟨fun | 129 => 179 | n => n, fun | 53 => 43 | 3 => 3 | 4 => 4 | 46 => 102 | 5 => 5 | 9 => 9 | n => n, fun | n => n⟩
theorem Tryz.lays129 : Go.Proofs.Lays.n129 Tryz.prog Tryz.lays129_ren := {
 mixed := by kernel_rfl
 f129 := Tryz.func179.trans (congrArg some (by kernel_rfl))
 t3 := Tryz.underlying3
 a3 := Tryz.isAgg3
 z3 := Tryz.sizeOf3
 v3 := Tryz.zeroValue3
 t4 := Tryz.underlying4
 a4 := Tryz.isAgg4
 z4 := Tryz.sizeOf4
 v4 := Tryz.zeroValue4
 t5 := Tryz.underlying5
 a5 := Tryz.isAgg5
 z5 := Tryz.sizeOf5
 v5 := Tryz.zeroValue5
 t9 := Tryz.underlying9
 a9 := Tryz.isAgg9
 z9 := Tryz.sizeOf9
 v9 := Tryz.zeroValue9
 t46 := Tryz.underlying102
 a46 := Tryz.isAgg102
 z46 := Tryz.sizeOf102
 v46 := Tryz.zeroValue102
 t53 := Tryz.underlying43
 a53 := Tryz.isAgg43
 z53 := Tryz.sizeOf43
 v53 := Tryz.zeroValue43 }
theorem Tryz.bits_Len64 (x : Int) (w : World) (h0 : 0 ≤ x) (h1 : x ≤ 18446744073709551615) :
  Calls Tryz.prog 179 #[.int .u64 x] w fun e w' => e = .returned (.int .i64 (Lib.bitLen x.toNat)) ∧ w' = w := Any.bits_Len64 Tryz.lays129 x w h0 h1
end Go.Proofs
namespace Go.Proofs.YtahkeoegbjopfaaGreat
set_option maxRecDepth 100000
open Go.RowKit
section
variable {P : Program} {fn : Func} {F : Ending → World → Prop} {N : Nat} {ks : List K} {ops : Array Oper} {tg : Tags} {l : List Oper} {fr : Fr} {w : World} {ty ty2 t : TypeId} {pos pos2 : String} {aft aft2 : Array Edge} {gd gd2 : Option (Nat × Bool)} {d d2 n : Nat}
theorem rdT_mark (w : World) (bs : List UInt8) (fr : Nat × Nat) : RdT (w.alloc (.cells (B8 bs).toArray 5 fr)) (some ⟨w.heap.size, 0, none⟩) bs := by
 refine ⟨⟨by simp [B8_length], fun _ => ⟨w.heap.size, 0, rfl, fun j v hj => ?_⟩⟩, fun k hk => ?_⟩
 ·rw [Nat.zero_add, World.cell?_alloc_mark]
  simpa using hj
 ·obtain rfl : w.heap.size = k := by simpa [blk] using hk
  exact ⟨(B8 bs).toArray, fr, by show (w.heap.push _)[w.heap.size]? = _; simp⟩
theorem wl_litC {ps : Array (Nat × Operand)} {xs : List Operand} {vs : List Value} (bs : List UInt8) (T : U8 P t) (hs : ∀ w, (sizeOf 5).run P w = .ok 1 w) (hz : ∀ w, (zeroValue 5).run P w = .ok (.int .u8 0) w) (hxs : ps.toList.map Prod.snd = xs) (hx : fr.evs xs = some vs) (hv : vs = B8 bs) (hn : bs.length = n) (hps : ps = ((List.range' 0 n).zip xs).toArray) (hm : Nat.ble bs.length 1000000 = true)
  (hk : ∀ A w', RdT w' A bs → Below w.heap.size w w' → WL P fn F N ks ops tg.tail.tail l ((d2, .slice A n n) :: (d, .slice A n n) :: fr) w')
  (ht : tg.loud = true := by rfl) (ht2 : tg.tail.loud = true := by rfl) (hg : onG ops fr gd = true := by rfl) (hg2 : ∀ u, onG ops ((d, u) :: fr) gd2 = true := by intro _; rfl) (hd : Nat.blt d N = true := by rfl) (hd2 : Nat.blt d2 N = true := by rfl) (hq : tg.tail.calm = false := by rfl) :
  WL P fn F N ks ops tg (⟨some d, .buildSlice t n ps, ty, pos, aft, gd⟩ :: ⟨some d2, .convert t t (.tmp d), ty2, pos2, aft2, gd2⟩ :: l) fr w := by
 subst hps; subst hv; subst hn
 have hm' : bs.length ≤ 1000000 := by simpa using hm
 have hr := run_lit (P := P) (w := w) T.ht hs hz rfl (B8 bs) (B8_oneCell _) (by rw [B8_length]; omega)
 rw [B8_length] at hr
 refine wl_v (o_lit hx hr) ?_ ht hg hd (.inr (grown_of_below (below_alloc w _) _))
 have hv : Fr.ev ((d, .slice (some ⟨w.heap.size, 0, none⟩) bs.length bs.length) :: fr) (.tmp d) = some (.slice (some ⟨w.heap.size, 0, none⟩) bs.length bs.length) := by simp [Fr.ev, Fr.get]
 refine wl_v (w' := w.alloc (.cells (B8 bs).toArray 5 ((B8 bs).toArray.size, (B8 bs).toArray.size + 1))) (fun a ha o ho _ => ?_) (hk _ _ (rdT_mark w bs _) (below_alloc w _)) ht2 (hg2 _) hd2 (.inl hq)
 have := Lib.run_convert_bytes_const (P := P) w t 5 (B8 bs).toArray bs.length bs.length T.ht T.hu
 simp [execOp, ho, ha.ev hv, this]
end
end Go.Proofs.YtahkeoegbjopfaaGreat
namespace Go.Proofs.YtahkeoegbjopfaaGreat
set_option maxRecDepth 100000
/-! Numbers in words, the low one first. -/
def val : List Nat → Nat
 | [] => 0
 | a :: l => a + 18446744073709551616 * val l
/-! Roots, bit by bit. -/
def greedy (p : Nat → Bool) : Nat → Nat → Nat
 | 0, x => x
 | b + 1, x => greedy p b (if p (x + 2 ^ b) then x + 2 ^ b else x)
def rootP (n k x : Nat) : Bool := decide (x ^ k ≤ n * 18446744073709551616 ^ k)
def root (n k : Nat) : Nat := greedy (rootP n k) 80 0
end Go.Proofs.YtahkeoegbjopfaaGreat
namespace Go.Proofs.YtahkeoegbjopfaaGreat
set_option maxRecDepth 100000
open Go.RowKit
section
variable {fn : Func} {N : Nat} {fr : Fr} {w : World} {ty : TypeId} {x y z : Operand} {ts : Array TypeId}
end
section
variable {fn : Func} {F : Ending → World → Prop} {N : Nat} {ks : List K} {ops : Array Oper} {tg : Tags} {l : List Oper} {fr : Fr} {w : World} {ty t t' e e2 : TypeId} {z v : Value} {pos : String} {aft : Array Edge} {gd : Option (Nat × Bool)} {d n g i a : Nat} {x y : Operand} {P : Program}
end
end Go.Proofs.YtahkeoegbjopfaaGreat
namespace Go.Proofs.YtahkeoegbjopfaaGreat
set_option maxRecDepth 100000
open Go.RowKit
def rotU (x : UInt64) (k : Int) : UInt64 := shlU x (k % 64).toNat ||| shrU x (64 - (k % 64).toNat)
def Kl : List UInt64 := [
 0x428a2f98d728ae22, 0x7137449123ef65cd, 0xb5c0fbcfec4d3b2f, 0xe9b5dba58189dbbc, 0x3956c25bf348b538, 0x59f111f1b605d019, 0x923f82a4af194f9b, 0xab1c5ed5da6d8118,
 0xd807aa98a3030242, 0x12835b0145706fbe, 0x243185be4ee4b28c, 0x550c7dc3d5ffb4e2, 0x72be5d74f27b896f, 0x80deb1fe3b1696b1, 0x9bdc06a725c71235, 0xc19bf174cf692694,
 0xe49b69c19ef14ad2, 0xefbe4786384f25e3, 0x0fc19dc68b8cd5b5, 0x240ca1cc77ac9c65, 0x2de92c6f592b0275, 0x4a7484aa6ea6e483, 0x5cb0a9dcbd41fbd4, 0x76f988da831153b5,
 0x983e5152ee66dfab, 0xa831c66d2db43210, 0xb00327c898fb213f, 0xbf597fc7beef0ee4, 0xc6e00bf33da88fc2, 0xd5a79147930aa725, 0x06ca6351e003826f, 0x142929670a0e6e70,
 0x27b70a8546d22ffc, 0x2e1b21385c26c926, 0x4d2c6dfc5ac42aed, 0x53380d139d95b3df, 0x650a73548baf63de, 0x766a0abb3c77b2a8, 0x81c2c92e47edaee6, 0x92722c851482353b,
 0xa2bfe8a14cf10364, 0xa81a664bbc423001, 0xc24b8b70d0f89791, 0xc76c51a30654be30, 0xd192e819d6ef5218, 0xd69906245565a910, 0xf40e35855771202a, 0x106aa07032bbd1b8,
 0x19a4c116b8d2d0c8, 0x1e376c085141ab53, 0x2748774cdf8eeb99, 0x34b0bcb5e19b48a8, 0x391c0cb3c5c95a63, 0x4ed8aa4ae3418acb, 0x5b9cca4f7763e373, 0x682e6ff3d6b2b8a3,
 0x748f82ee5defb2fc, 0x78a5636f43172f60, 0x84c87814a1f0ab72, 0x8cc702081a6439ec, 0x90befffa23631e28, 0xa4506cebde82bde9, 0xbef9a3f7b2c67915, 0xc67178f2e372532b,
 0xca273eceea26619c, 0xd186b8c721c0c207, 0xeada7dd6cde0eb1e, 0xf57d4f7fee6ed178, 0x06f067aa72176fba, 0x0a637dc5a2c898a6, 0x113f9804bef90dae, 0x1b710b35131c471b,
 0x28db77f523047d84, 0x32caab7b40c72493, 0x3c9ebe0a15c9bebc, 0x431d67c49c100d4c, 0x4cc5d4becb3e42b6, 0x597f299cfc657e2a, 0x5fcb6fab3ad6faec, 0x6c44198c4a475817]
def Sl : List UInt64 := [0x6a09e667f3bcc908, 0xbb67ae8584caa73b, 0x3c6ef372fe94f82b, 0xa54ff53a5f1d36f1, 0x510e527fade682d1, 0x9b05688c2b3e6c1f, 0x1f83d9abfb41bd6b, 0x5be0cd19137e2179]
theorem Sl_len : Sl.length = 8 := rfl
theorem zv80 : ∀ w, (zeroValue 197).run Tryz.prog w = .ok (.agg (vU (List.replicate 80 0)).toArray) w := fun w => by
 have h : (Tryz.prog.info? 197).map (fun i => (i.zero, i.size, i.bytes)) = some (some (.agg (vU (List.replicate 80 0)).toArray), 80, 640) := by kernel_rfl
 obtain ⟨i, hi, hz, _, _⟩ := info_parts h
 simp [zeroValue, typeInfo, hi, hz]
section
variable {fn : Func} {F : Ending → World → Prop} {N : Nat} {ks : List K} {ops : Array Oper} {tg : Tags} {l : List Oper} {fr : Fr} {w : World} {ty : TypeId} {pos : String} {aft : Array Edge} {gd : Option (Nat × Bool)} {d : Nat}
end
/-! The words of a piece. -/
def pw (l : List UInt8) : UInt64 := l.foldl (fun a c => shlU a 8 ||| c.toUInt64) 0
def part8 (p : List UInt8) (i j : Nat) : List UInt8 := ((p.take i).drop (8 * j)).take 8
theorem part8_same {p : List UInt8} {i j : Nat} (hi : i < p.length) (h : j ≠ i / 8) : part8 p (i + 1) j = part8 p i j := by
 unfold part8
 rw [List.take_succ_eq_append_getElem hi]
 rcases Nat.lt_or_gt_of_ne h with h | h
 ·rw [List.drop_append_of_le_length (by rw [List.length_take]; omega), List.take_append_of_le_length (by rw [List.length_drop, List.length_take]; omega)]
 ·rw [List.drop_of_length_le (by simp only [List.length_append, List.length_take, List.length_singleton]; omega), List.drop_of_length_le (by rw [List.length_take]; omega)]
theorem part8_next {p : List UInt8} {i : Nat} (hi : i < p.length) : part8 p (i + 1) (i / 8) = part8 p i (i / 8) ++ [p[i]] := by
 unfold part8
 rw [List.take_succ_eq_append_getElem hi, List.drop_append_of_le_length (by rw [List.length_take]; omega)]
 have h1 : ((p.take i).drop (8 * (i / 8))).length = i - 8 * (i / 8) := by rw [List.length_drop, List.length_take]; omega
 generalize (p.take i).drop (8 * (i / 8)) = q at h1
 rw [List.take_of_length_le (by rw [List.length_append, List.length_singleton]; omega), List.take_of_length_le (by omega)]
def ws80 (p : List UInt8) (i : Nat) : List UInt64 := (List.range 80).map fun j => pw (part8 p i j)
theorem ws80_len (p : List UInt8) (i : Nat) : (ws80 p i).length = 80 := by simp [ws80]
theorem ws80_get (p : List UInt8) (i j : Nat) (h : j < (ws80 p i).length) : (ws80 p i)[j] = pw (part8 p i j) := by
 simp [ws80]
theorem ws80_next {p : List UInt8} {i : Nat} (hi : i < p.length) (h : i / 8 < (ws80 p i).length) : (ws80 p i).set (i / 8) (shlU (ws80 p i)[i / 8] 8 ||| p[i].toUInt64) = ws80 p (i + 1) := by
 apply List.ext_getElem (by rw [List.length_set, ws80_len, ws80_len])
 intro j h1 h2
 rw [List.getElem_set]
 simp only [ws80_get]
 by_cases e : i / 8 = j
 ·subst e
  rw [if_pos rfl, part8_next hi]
  simp [pw, List.foldl_append]
 ·rw [if_neg e, part8_same hi (fun h => e h.symm)]
theorem ws80_zero (p : List UInt8) : ws80 p 0 = List.replicate 80 0 := by
 apply List.ext_getElem (by rw [ws80_len, List.length_replicate])
 intro j h1 h2
 rw [ws80_get, List.getElem_replicate]
 simp [part8, pw]
def sg0 (x : UInt64) : UInt64 := rotU x (-1) ^^^ rotU x (-8) ^^^ shrU x 7
def sg1 (x : UInt64) : UInt64 := rotU x (-19) ^^^ rotU x (-61) ^^^ shrU x 6
def wnext (l : List UInt64) (n : Nat) : UInt64 := l.getD n 0 + sg0 (l.getD (n + 1) 0) + l.getD (n + 9) 0 + sg1 (l.getD (n + 14) 0)
def wx (p : List UInt8) : Nat → List UInt64
 | 0 => (List.range 16).map fun j => pw (part8 p 128 j)
 | n + 1 => wx p n ++ [wnext (wx p n) n]
theorem wx_len (p : List UInt8) : ∀ n, (wx p n).length = 16 + n
 | 0 => by simp [wx]
 | n + 1 => by simp [wx, wx_len p n]; omega
theorem wx_start {p : List UInt8} (hp : p.length = 128) : ws80 p 128 = wx p 0 ++ List.replicate 64 0 := by
 apply List.ext_getElem (by rw [ws80_len]; simp [wx])
 intro j h1 h2
 rw [ws80_get]
 rcases Nat.lt_or_ge j 16 with h | h
 ·rw [List.getElem_append_left (by rw [wx_len]; omega)]
  simp [wx]
 ·rw [List.getElem_append_right (by rw [wx_len]; omega), List.getElem_replicate]
  unfold part8
  rw [List.drop_of_length_le (by rw [List.length_take]; omega)]
  rfl
theorem sched_next {p : List UInt8} {n : Nat} {q : List UInt64} (hn : n < 64) (hq : q = wx p n ++ List.replicate (64 - n) 0) (h1 : n + 16 - 16 < q.length) (h2 : n + 16 - 15 < q.length) (h3 : n + 16 - 7 < q.length) (h4 : n + 16 - 2 < q.length) :
  q.set (n + 16) (q[n + 16 - 16] + sg0 q[n + 16 - 15] + q[n + 16 - 7] + sg1 q[n + 16 - 2]) = wx p (n + 1) ++ List.replicate (64 - (n + 1)) 0 := by
 have hget : ∀ j (h : j < q.length), j < 16 + n → q[j] = (wx p n).getD j 0 := fun j h hj => by
  subst hq
  rw [List.getElem_append_left (by rw [wx_len]; exact hj), List.getD_eq_getElem?_getD, List.getElem?_eq_getElem (by rw [wx_len]; exact hj)]
  rfl
 rw [hget _ h1 (by omega), hget _ h2 (by omega), hget _ h3 (by omega), hget _ h4 (by omega)]
 rw [show n + 16 - 16 = n by omega, show n + 16 - 15 = n + 1 by omega, show n + 16 - 7 = n + 9 by omega, show n + 16 - 2 = n + 14 by omega]
 rw [hq, List.set_append_right _ _ (by rw [wx_len]; omega), wx_len, show n + 16 - (16 + n) = 0 by omega, show 64 - n = (64 - (n + 1)) + 1 by omega, List.replicate_succ, List.set_cons_zero]
 show _ = (wx p n ++ [wnext (wx p n) n]) ++ _
 rw [List.append_assoc]; rfl
end Go.Proofs.YtahkeoegbjopfaaGreat
namespace Go.Proofs.YtahkeoegbjopfaaGreat
set_option maxRecDepth 100000
open Go.RowKit
structure St where
 a : UInt64
 b : UInt64
 c : UInt64
 d : UInt64
 e : UInt64
 f : UInt64
 g : UInt64
 h : UInt64
def rnd (k w : UInt64) (s : St) : St :=
 let t1 := s.h + (rotU s.e (-14) ^^^ rotU s.e (-18) ^^^ rotU s.e (-41)) + (s.e &&& s.f ^^^ ~~~s.e &&& s.g) + k + w
 let t2 := (rotU s.a (-28) ^^^ rotU s.a (-34) ^^^ rotU s.a (-39)) + (s.a &&& s.b ^^^ s.a &&& s.c ^^^ s.b &&& s.c)
 ⟨t1 + t2, s.a, s.b, s.c, s.d + t1, s.e, s.f, s.g⟩
def rnds (ks ws : List UInt64) : Nat → St → St
 | 0, s => s
 | n + 1, s => rnd (ks.getD n 0) (ws.getD n 0) (rnds ks ws n s)
def St.list (s : St) : List UInt64 := [s.a, s.b, s.c, s.d, s.e, s.f, s.g, s.h]
def stOf (l : List UInt64) : St := ⟨l.getD 0 0, l.getD 1 0, l.getD 2 0, l.getD 3 0, l.getD 4 0, l.getD 5 0, l.getD 6 0, l.getD 7 0⟩
def pieceU (l : List UInt64) (p : List UInt8) : List UInt64 := List.zipWith (· + ·) l (rnds Kl (wx p 64) 80 (stOf l)).list
theorem pieceU_len {l : List UInt64} (p : List UInt8) (hl : l.length = 8) : (pieceU l p).length = 8 := by
 simp [pieceU, hl, St.list]
theorem stOf_eq {l : List UInt64} (hl : l.length = 8) : stOf l = ⟨l[0], l[1], l[2], l[3], l[4], l[5], l[6], l[7]⟩ := by
 match l, hl with
 | [a, b, c, d, e, f, g, h], _ => rfl
theorem rnds_next {ks ws : List UInt64} {n : Nat} {s0 s : St} (h : s = rnds ks ws n s0) (h1 : n < ks.length) (h2 : n < ws.length) : rnd ks[n] ws[n] s = rnds ks ws (n + 1) s0 := by
 show _ = rnd (ks.getD n 0) (ws.getD n 0) (rnds ks ws n s0)
 rw [h, List.getD_eq_getElem?_getD, List.getElem?_eq_getElem h1, List.getD_eq_getElem?_getD, List.getElem?_eq_getElem h2]; rfl
theorem zip_next {l x q : List UInt64} {i : Nat} (hq : q = (List.zipWith (· + ·) l x).take i ++ l.drop i) (hx : x.length = l.length) (h1 : i < q.length) (h2 : i < x.length) : q.set i (q[i] + x[i]) = (List.zipWith (· + ·) l x).take (i + 1) ++ l.drop (i + 1) := by
 have hz : (List.zipWith (· + ·) l x).length = l.length := by rw [List.length_zipWith]; omega
 have hil : i < l.length := by omega
 have ht : ((List.zipWith (· + ·) l x).take i).length = i := by rw [List.length_take]; omega
 have hqi : q[i] = l[i] := by
  subst hq
  rw [List.getElem_append_right (by omega)]
  simp only [ht, Nat.sub_self, List.getElem_drop, Nat.add_zero]
 rw [hqi, hq, List.set_append_right _ _ (by omega), ht, Nat.sub_self, List.drop_eq_getElem_cons hil, List.set_cons_zero, List.take_succ_eq_append_getElem (by omega), List.getElem_zipWith, List.append_assoc]
 rfl
def byteAt (l : List UInt64) (i : Nat) : UInt8 := (shrU (l.getD (i / 8) 0) (56 - 8 * (i % 8))).toUInt8
def bytesU (l : List UInt64) : List UInt8 := (List.range 64).map (byteAt l)
theorem bytesU_len (l : List UInt64) : (bytesU l).length = 64 := by simp [bytesU]
theorem bytes_next {l : List UInt64} {q : List UInt8} {i : Nat} (hi : i < 64) (hq : q = (bytesU l).take i ++ List.replicate (64 - i) 0) (h1 : i / 8 < l.length) : q.set i (shrU l[i / 8] (56 - 8 * (i % 8))).toUInt8 = (bytesU l).take (i + 1) ++ List.replicate (64 - (i + 1)) 0 := by
 have ht : ((bytesU l).take i).length = i := by rw [List.length_take, bytesU_len]; omega
 rw [hq, List.set_append_right _ _ (by omega), ht, Nat.sub_self, show 64 - i = (64 - (i + 1)) + 1 by omega, List.replicate_succ, List.set_cons_zero, List.take_succ_eq_append_getElem (by rw [bytesU_len]; omega), List.append_assoc]
 congr 2
 simp [bytesU, byteAt, h1]
end Go.Proofs.YtahkeoegbjopfaaGreat
namespace Go.Proofs.YtahkeoegbjopfaaGreat
set_option maxRecDepth 100000
theorem Tryz.u8 : U8 Tryz.prog 39 := ⟨Tryz.underlying39, by kernel_rfl, Tryz.underlying5⟩
end Go.Proofs.YtahkeoegbjopfaaGreat
namespace Go.Proofs.YtahkeoegbjopfaaGreat
set_option maxRecDepth 100000
open Go.RowKit
theorem own_max {w : World} {lo hi c : Nat} {A : Option Addr} {l : List UInt8} (h : OwnH w lo hi A c l) : c ≤ maxLen := by
 have h1 : w.ownsRow lo 5 1 (.slice A l.length c) l.length (B8 l) := h.o
 rcases h1.2 with ⟨hv, _⟩ | ⟨g, cap, cur, hv, _, _, _, hm, _⟩
 ·injection hv with _ _ e; subst e; simp only [maxLen]; omega
 ·injection hv with _ _ e
  subst e; exact hm
section
variable {fn : Func} {F : Ending → World → Prop} {N : Nat} {ks : List K} {ops : Array Oper} {tg : Tags} {l : List Oper} {fr : Fr} {w : World} {ty : TypeId} {pos : String} {aft : Array Edge} {gd : Option (Nat × Bool)} {d : Nat} {x y : Operand}
theorem wl_mkBz {k1 k2 : IntKind} {C E : Int} {Z : List UInt8} (n : Nat) (hx : fr.ev x = some (.int k1 E)) (hy : fr.ev y = some (.int k2 C)) (hE : E = (n : Int)) (hC : C = (n : Int)) (hn : n ≤ 4000000000) (hZ : List.replicate n 0 = Z)
  (hk : ∀ A w', OwnH w' w.heap.size w'.heap.size A n Z → Below w.heap.size w w' → WL Tryz.prog fn F N ks ops tg.tail l ((d, .slice A n n) :: fr) w')
  (ht : tg.loud = true := by rfl) (hg : onG ops fr gd = true := by rfl) (hd : Nat.blt d N = true := by rfl) : WL Tryz.prog fn F N ks ops tg (⟨some d, .makeSlice 39 x y, ty, pos, aft, gd⟩ :: l) fr w := by
 subst hC; subst hE; subst hZ
 obtain ⟨i, hi, hz, hs, hb⟩ := info_parts Tryz.u8.hi
 obtain ⟨w', hrun, r1, r2⟩ := run_make_full (P := Tryz.prog) w w.heap.size 39 5 i _ 1 Tryz.u8.ht hi hz hs k1 k2 n (by rw [hb]; omega) (by simp only [maxLen]; omega) (Nat.le_refl _)
 have hbl : Below w.heap.size w w' := (Below.refl _ _).grown r2 (Nat.le_refl _) (by simp)
 have e : (madeCells (Value.int .u8 0).cells (n * 1)).toList = B8 (List.replicate n 0) := by
  rw [Nat.mul_one]; exact (toList_madeCells_one _ _).trans (by simp [B8])
 rw [e] at r1
 have ho : Own w' w.heap.size (some ⟨w.heap.size, 0, none⟩) n (List.replicate n 0) := by
  unfold Own; rw [List.length_replicate]; exact r1
 exact wl_v (fun a ha o ho _ => by simp [execOp, ho, ha.ev hx, ha.ev hy, hrun]) (hk _ w' ho.h_ hbl) ht hg hd (.inr (grown_of_below hbl _))
end
end Go.Proofs.YtahkeoegbjopfaaGreat
namespace Go.Proofs.YtahkeoegbjopfaaGreat
set_option maxRecDepth 100000
open Go.RowKit
def RKb (w : World) (A : Option Addr) (L : List By) : Prop := RSl gBytes w A L
section
variable {w w' : World} {A : Option Addr} {K : List By}
theorem RKb.u (h : RKb w A K) (hb : Below w.heap.size w w') : RKb w' A K := RSl.u h hb
theorem RKb.some_ (h : RKb w A K) (hl : 0 < K.length) : A = some (A.getD ⟨0, 0, none⟩) := RSl.some_ h (by decide) hl
theorem RKb.elem (h : RKb w A K) {i : Nat} (hi : i < K.length) : ∃ A1 c1, CellsAt w A (i * 1) [.slice A1 K[i].length c1] ∧ Rd w A1 K[i] ∧ K[i].length ≤ c1 := by
 obtain ⟨cs, h1, A1, c1, rfl, h2, h3, _⟩ := RSl.elem h (by decide) hi
 exact ⟨A1, c1, h1, h2, h3⟩
end
section
variable {fn : Func} {F : Ending → World → Prop} {N : Nat} {ks : List K} {ops : Array Oper} {tg : Tags} {l : List Oper} {fr : Fr} {w : World} {ty t t' : TypeId} {pos : String} {aft : Array Edge} {gd : Option (Nat × Bool)} {d j : Nat} {x y : Operand} {A : Option Addr} {Ky : List By} {w0 : World}
theorem wl_ldKb (hx : fr.ev x = some (.pointer (some (adr A j)))) (hr : RKb w0 A Ky) (hb : Below w0.heap.size w0 w) (hj : j < Ky.length)
  (hk : ∀ A1 c1, Rd w0 A1 Ky[j] → Ky[j].length ≤ c1 → WL Tryz.prog fn F N ks ops tg.tail l ((d, .slice A1 Ky[j].length c1) :: fr) w)
  (ht : tg.reads = true := by rfl) (hg : onG ops fr gd = true := by rfl) (hd : Nat.blt d N = true := by rfl) : WL Tryz.prog fn F N ks ops tg (⟨some d, .load 39 x, ty, pos, aft, gd⟩ :: l) fr w := by
 obtain ⟨A1, c1, h1, h2, h3⟩ := hr.elem hj
 refine wl_r (o_load (t := 39) Tryz.isAgg39 hx ?_) (hk A1 c1 h2 h3) ht hg hd
 have := h1.u hb 0 _ rfl
 rwa [Nat.mul_one] at this
end
def zeros (n : Nat) : Nat := (239 - n % 128) % 128
theorem zeros_lt (n : Nat) : zeros n < 128 := Nat.mod_lt _ (by decide)
def be8 (n : UInt64) : List UInt8 := (List.range 8).map fun k => (shrU n (56 - 8 * k)).toUInt8
theorem be8_len (n : UInt64) : (be8 n).length = 8 := by simp [be8]
theorem be8_get (n : UInt64) (k : Nat) (h : k < (be8 n).length) : (be8 n)[k] = (shrU n (56 - 8 * k)).toUInt8 := by simp [be8]
theorem flatten_le (L : List By) (n : Nat) (h : ∀ x ∈ L, x.length ≤ n) : L.flatten.length ≤ n * L.length := by
 induction L with
 | nil => simp
 | cons a L ih =>
  have h1 := ih (fun x hx => h x (by simp [hx]))
  have h2 := h a (by simp)
  rw [List.flatten_cons, List.length_append, List.length_cons, Nat.mul_add]
  omega
theorem flatten_take (L : List By) (i : Nat) (h : i < L.length) : (L.take (i + 1)).flatten = (L.take i).flatten ++ L[i] := by
 rw [List.take_succ_eq_append_getElem h, List.flatten_append]; simp
theorem flatten_take_le (L : List By) (i : Nat) : (L.take i).flatten.length ≤ L.flatten.length := by
 have : L.flatten = (L.take i).flatten ++ (L.drop i).flatten := by rw [← List.flatten_append, List.take_append_drop]
 rw [this, List.length_append]; omega
def padU (b : By) : By := b ++ [128] ++ List.replicate (zeros b.length) 0 ++ be8 0 ++ be8 (UInt64.ofNat (b.length * 8))
theorem padU_len (b : By) : (padU b).length = b.length + 17 + zeros b.length := by simp only [padU, List.length_append, be8_len, List.length_replicate, List.length_singleton]; omega
end Go.Proofs.YtahkeoegbjopfaaGreat
namespace Go.Proofs.YtahkeoegbjopfaaGreat
set_option maxRecDepth 100000
open Go.RowKit
section
variable {P : Program} {fn : Func} {F : Ending → World → Prop} {N n : Nat} {ks : List K} {fr : Fr} {w : World} {I : Act → World → Prop}
variable {ops : Array Oper} {l : List Oper} {ty : TypeId} {pos : String} {aft : Array Edge} {d : Nat} {x y : Operand} {op : Op} {v : Value} {w' : World}
variable {gd : Option (Nat × Bool)}
end
end Go.Proofs.YtahkeoegbjopfaaGreat
namespace Go.Proofs.YtahkeoegbjopfaaGreat
set_option maxRecDepth 100000
open Go.RowKit
section
variable {P : Program} {N : Nat} {fr : Fr} {w : World} {ty t e : TypeId} {x y z u : Operand} {A : Option Addr} {len cap lo hi mx : Nat} {kl kh km : IntKind} {l h m : Int}
end
end Go.Proofs.YtahkeoegbjopfaaGreat
namespace Go.Proofs.YtahkeoegbjopfaaGreat
set_option maxRecDepth 100000
open Go.RowKit
def chunkB (p : By) (i : Nat) : By := (p.drop (128 * i)).take 128
def runU (l : List UInt64) (p : By) : List UInt64 := (List.range (p.length / 128)).foldl (fun s i => pieceU s (chunkB p i)) l
theorem runU_len {l : List UInt64} (p : By) (hl : l.length = 8) : (runU l p).length = 8 := by
 have : ∀ (xs : List Nat) (s : List UInt64), s.length = 8 → (xs.foldl (fun s i => pieceU s (chunkB p i)) s).length = 8 := by
  intro xs
  induction xs with
  | nil => exact fun s h => h
  | cons x xs ih => exact fun s h => ih _ (pieceU_len _ h)
 exact this _ _ hl
theorem padU_mul (b : By) : ∃ M, (padU b).length = 128 * M := by
 refine ⟨(padU b).length / 128, ?_⟩
 rw [padU_len]
 unfold zeros
 omega
section
variable {P : Program} {N : Nat} {fr : Fr} {w w0 : World} {ty t : TypeId} {x : Operand}
end
end Go.Proofs.YtahkeoegbjopfaaGreat
namespace Go.Proofs.YtahkeoegbjopfaaGreat
set_option maxRecDepth 100000
open Go.RowKit
section
variable {P : Program} {fn : Func} {F : Ending → World → Prop} {N : Nat} {ks : List K} {ops : Array Oper} {tg : Tags} {l : List Oper} {fr : Fr} {w : World} {ty t t' : TypeId} {pos : String} {aft : Array Edge} {gd : Option (Nat × Bool)} {d n g : Nat} {x y z : Operand} {h : Int} {kh : IntKind}
theorem rd_pre {c : By} (hB : Blk w g t' (B8 c)) (k : Nat) : Rd w (some ⟨g, 0, none⟩) (c.take k) := by
 refine ⟨by rw [B8_length, Nat.mul_one], fun _ => ⟨g, 0, rfl, fun j u hj => ?_⟩⟩
 rw [Nat.zero_add, hB.cell]
 unfold B8 at hj ⊢
 rw [List.getElem?_map] at hj ⊢
 rcases Nat.lt_or_ge j k with h | h
 ·rw [List.getElem?_take_of_lt h] at hj; exact hj
 ·rw [List.getElem?_eq_none (by rw [List.length_take]; omega)] at hj; cases hj
end
section
variable {fn : Func} {F : Ending → World → Prop} {N : Nat} {ks : List K} {ops : Array Oper} {tg : Tags} {l : List Oper} {fr : Fr} {w : World} {ty : TypeId} {pos : String} {aft : Array Edge} {gd : Option (Nat × Bool)} {d : Nat}
theorem Tryz.rowKey : RowT Tryz.prog 164 39 (.slice none 0 0) 1 24 := ⟨Tryz.underlying164, by kernel_rfl, rfl, by omega⟩
end
end Go.Proofs.YtahkeoegbjopfaaGreat
namespace Go.Proofs.YtahkeoegbjopfaaGreat
set_option maxRecDepth 100000
open Go.RowKit
theorem own_max' {w : World} {lo hi c : Nat} {A : Option Addr} {l : List UInt8} (h : OwnH w lo hi A c l) : c ≤ 9223372036854775807 := by
 have := own_max h; simpa [maxLen] using this
theorem rd_blk {w : World} {g : Nat} {t : TypeId} {c : By} (hB : Blk w g t (B8 c)) : Rd w (some ⟨g, 0, none⟩) c := by
 have := rd_pre hB c.length
 rwa [List.take_length] at this
theorem Blk.to_Rd {w : World} {g : Nat} {t : TypeId} {c : By} (hB : Blk w g t (B8 c)) : Rd w (some ⟨g, 0, none⟩) c := rd_blk hB
section
variable {P : Program} {N : Nat} {fr : Fr} {w : World} {ty t t' : TypeId} {n g : Nat} {x z : Operand} {h : Int} {kh : IntKind}
theorem o_slArrHi (k : Nat) (hu : P.underlying t = some (.array n 5)) (hs : ∀ w, (sizeOf 5).run P w = .ok 1 w) (hx : fr.ev x = some (.pointer (some ⟨g, 0, none⟩))) (hz : fr.ev z = some (.int kh h)) (hh : h = (k : Int)) (hk : k ≤ n) : OpV P N fr w (.slice t x none (some z) none) ty (.slice (some ⟨g, 0, none⟩) k n) w := by
 subst hh
 intro a ha op hop _
 simp [execOp, hop, ha.ev hx, ha.ev hz, Instr.sliceAt, Instr.sureAddr, run_underlying hu, Instr.sliceBounds, Instr.sliceBound, asIntOf, hs, hk, Addr.add]
end
section
variable {fn : Func} {F : Ending → World → Prop} {N : Nat} {ks : List K} {ops : Array Oper} {tg : Tags} {l : List Oper} {fr : Fr} {w : World} {ty : TypeId} {pos : String} {aft : Array Edge} {gd : Option (Nat × Bool)} {d : Nat}
theorem wl_litKr1 {ps : Array (Nat × Operand)} {xs : List Operand} {A1 : Option Addr} {n1 c1 : Nat} {p1 : By} (hxs : ps.toList.map Prod.snd = xs) (hx : fr.evs xs = some [.slice A1 n1 c1]) (h1 : Rd w A1 p1) (hn1 : n1 = p1.length) (hc1 : p1.length ≤ c1) (hm1 : c1 ≤ 9223372036854775807) (hps : ps = ((List.range' 0 1).zip xs).toArray)
  (hk : ∀ A w', RKb w' A [p1] → Below w.heap.size w w' → WL Tryz.prog fn F N ks ops tg.tail l ((d, .slice A 1 1) :: fr) w')
  (ht : tg.loud = true := by rfl) (hg : onG ops fr gd = true := by rfl) (hd : Nat.blt d N = true := by rfl) : WL Tryz.prog fn F N ks ops tg (⟨some d, .buildSlice 164 1 ps, ty, pos, aft, gd⟩ :: l) fr w := by
 subst hn1
 refine wl_litRS (X := gBytes) (L := [p1]) Tryz.rowKey Tryz.sizeOf39 Tryz.zeroValue39 hxs hps hx rfl rfl (fun i h => ?_) rfl hk ht hg hd
 obtain rfl : i = 0 := by simp at h; omega
 exact ⟨_, rfl, rfl, A1, c1, rfl, h1, hc1, by simp only [maxLen]; omega⟩
theorem wl_litKr2 {ps : Array (Nat × Operand)} {xs : List Operand} {A1 A2 : Option Addr} {n1 c1 n2 c2 : Nat} {p1 p2 : By} (hxs : ps.toList.map Prod.snd = xs) (hx : fr.evs xs = some [.slice A1 n1 c1, .slice A2 n2 c2]) (h1 : Rd w A1 p1) (h2 : Rd w A2 p2) (hn1 : n1 = p1.length) (hn2 : n2 = p2.length) (hc1 : p1.length ≤ c1) (hc2 : p2.length ≤ c2) (hm1 : c1 ≤ 9223372036854775807) (hm2 : c2 ≤ 9223372036854775807) (hps : ps = ((List.range' 0 2).zip xs).toArray)
  (hk : ∀ A w', RKb w' A [p1, p2] → Below w.heap.size w w' → WL Tryz.prog fn F N ks ops tg.tail l ((d, .slice A 2 2) :: fr) w')
  (ht : tg.loud = true := by rfl) (hg : onG ops fr gd = true := by rfl) (hd : Nat.blt d N = true := by rfl) : WL Tryz.prog fn F N ks ops tg (⟨some d, .buildSlice 164 2 ps, ty, pos, aft, gd⟩ :: l) fr w := by
 subst hn1; subst hn2
 refine wl_litRS (X := gBytes) (L := [p1, p2]) Tryz.rowKey Tryz.sizeOf39 Tryz.zeroValue39 hxs hps hx rfl rfl (fun i h => ?_) rfl hk ht hg hd
 rcases i with _ | _ | i
 ·exact ⟨_, rfl, rfl, A1, c1, rfl, h1, hc1, by simp only [maxLen]; omega⟩
 ·exact ⟨_, rfl, rfl, A2, c2, rfl, h2, hc2, by simp only [maxLen]; omega⟩
 ·simp at h; omega
theorem wl_litKr3 {ps : Array (Nat × Operand)} {xs : List Operand} {A1 A2 A3 : Option Addr} {n1 c1 n2 c2 n3 c3 : Nat} {p1 p2 p3 : By} (hxs : ps.toList.map Prod.snd = xs) (hx : fr.evs xs = some [.slice A1 n1 c1, .slice A2 n2 c2, .slice A3 n3 c3]) (h1 : Rd w A1 p1) (h2 : Rd w A2 p2) (h3 : Rd w A3 p3) (hn1 : n1 = p1.length) (hn2 : n2 = p2.length) (hn3 : n3 = p3.length) (hc1 : p1.length ≤ c1) (hc2 : p2.length ≤ c2) (hc3 : p3.length ≤ c3) (hm1 : c1 ≤ 9223372036854775807) (hm2 : c2 ≤ 9223372036854775807) (hm3 : c3 ≤ 9223372036854775807) (hps : ps = ((List.range' 0 3).zip xs).toArray)
  (hk : ∀ A w', RKb w' A [p1, p2, p3] → Below w.heap.size w w' → WL Tryz.prog fn F N ks ops tg.tail l ((d, .slice A 3 3) :: fr) w')
  (ht : tg.loud = true := by rfl) (hg : onG ops fr gd = true := by rfl) (hd : Nat.blt d N = true := by rfl) : WL Tryz.prog fn F N ks ops tg (⟨some d, .buildSlice 164 3 ps, ty, pos, aft, gd⟩ :: l) fr w := by
 subst hn1; subst hn2; subst hn3
 refine wl_litRS (X := gBytes) (L := [p1, p2, p3]) Tryz.rowKey Tryz.sizeOf39 Tryz.zeroValue39 hxs hps hx rfl rfl (fun i h => ?_) rfl hk ht hg hd
 rcases i with _ | _ | _ | i
 ·exact ⟨_, rfl, rfl, A1, c1, rfl, h1, hc1, by simp only [maxLen]; omega⟩
 ·exact ⟨_, rfl, rfl, A2, c2, rfl, h2, hc2, by simp only [maxLen]; omega⟩
 ·exact ⟨_, rfl, rfl, A3, c3, rfl, h3, hc3, by simp only [maxLen]; omega⟩
 ·simp at h; omega
end
section
variable {P : Program} {N : Nat} {fr : Fr} {w : World} {ty : TypeId} {x : Operand} {u0 u1 u2 u3 : Value}
end
end Go.Proofs.YtahkeoegbjopfaaGreat
namespace Go.Proofs.YtahkeoegbjopfaaGreat
set_option maxRecDepth 100000
open Go.RowKit
def vK (k : IntKind) (l : List Nat) : List Value := l.map fun x : Nat => .int k (x : Int)
theorem vK_length (k : IntKind) (l : List Nat) : (vK k l).length = l.length := List.length_map ..
theorem vK_get {k : IntKind} {l : List Nat} {j : Nat} (h : j < l.length) : (vK k l)[j]? = some (.int k (l[j] : Int)) := by
 unfold vK; rw [List.getElem?_map, List.getElem?_eq_getElem h]; rfl
theorem vK_set (k : IntKind) (l : List Nat) (j a : Nat) : vK k (l.set j a) = (vK k l).set j (.int k (a : Int)) := by
 unfold vK; rw [List.map_set]
def OwnK (k : IntKind) (e : TypeId) (w : World) (lo hi : Nat) (A : Option Addr) (c : Nat) (l : List Nat) : Prop := RowH w lo hi e 1 A l.length c (vK k l)
section
variable {k : IntKind} {w w' : World} {lo hi c b : Nat} {e e' : TypeId} {A : Option Addr} {l : List Nat} {row : Option Nat}
theorem OwnK.at_ (h : OwnK k e w lo hi A c l) (hl : 0 < l.length) : ∃ g, A = some ⟨g, 0, none⟩ ∧ blk A = some g := by
 rcases h.o.2 with ⟨h', h0⟩ | ⟨g, cap, cur, hv, _⟩
 ·omega
 ·injection hv with hv
  exact ⟨g, hv, by rw [hv]; rfl⟩
theorem OwnK.stored {j a : Nat} (h : OwnK k e w lo hi A c l) (hj : j < l.length) :
  OwnK k e (w.setCell (adr A j) (.int k (a : Int))) lo hi A c (l.set j a) ∧ Grew w (w.setCell (adr A j) (.int k (a : Int))) e (blk A) ∧ (w.setCell (adr A j) (.int k (a : Int))).heap.size = w.heap.size ∧ w.frozen? (adr A j) = false ∧ (w.cell? (adr A j)).isSome = true := by
 obtain ⟨g, rfl, hb⟩ := h.at_ (by omega)
 have e1 : adr (some ⟨g, 0, none⟩) j = ⟨g, j, none⟩ := by simp [adr, add_plain]
 rw [e1]
 have h1 := World.ownsRow.stored h.o j (.int k (a : Int))
 refine ⟨⟨?_, h.hi⟩, ⟨by rw [hb]; exact h1.2, RowH.ty h⟩, ?_, World.ownsRow.frozenAt h.o j, ?_⟩
 ·show World.ownsRow _ lo e 1 _ (l.set j a).length _
  rw [List.length_set, vK_set]; exact h1.1
 ·exact Nat.le_antisymm (by simp) h1.2.size
 ·have := (RowH.rd h).adr_ (fun e0 => by have := vK_length k l; rw [e0] at this; simp at this; omega)
  have h2 := this.2 j _ (vK_get (k := k) hj)
  rw [e1] at h2; rw [h2]; rfl
end
section
variable {P : Program} {fn : Func} {F : Ending → World → Prop} {N : Nat} {ks : List K} {ops : Array Oper} {tg : Tags} {l : List Oper} {fr : Fr} {w : World} {ty t e : TypeId} {z : Value} {k k1 k2 : IntKind} {pos : String} {aft : Array Edge} {gd : Option (Nat × Bool)} {d n c a j q lo hi bytes : Nat} {x y : Operand} {A X : Option Addr} {zS ms : List Nat}
theorem wl_stK (hs : ∀ w, (sizeOf t).run P w = .ok 1 w) (hx : fr.ev x = some (.pointer (some (adr A j)))) (hown : OwnK k e w lo hi A c zS) (hy : fr.ev y = some (.int k (a : Int))) (hj : j < zS.length)
  (hk : ∀ w', OwnK k e w' lo hi A c (zS.set j a) → Grew w w' e (blk A) → Below lo w w' → w'.heap.size = w.heap.size → WL P fn F N ks ops tg.tail l fr w') (ht : tg.loud = true := by rfl) (hg : onG ops fr gd = true := by rfl) (hq : tg.calm = false ∨ blk A = tg.row := by exact .inl rfl) :
  WL P fn F N ks ops tg (⟨none, .store t x y, ty, pos, aft, gd⟩ :: l) fr w := by
 obtain ⟨h1, h2, h3, h4, h5⟩ := hown.stored (a := a) hj
 obtain ⟨u, hu⟩ := Option.isSome_iff_exists.1 h5
 obtain ⟨g, e1, e2⟩ := hown.at_ (by omega)
 have eg : adr A j = ⟨g, j, none⟩ := by rw [e1]; simp [adr, add_plain]
 rw [eg] at hx hu h4 h1 h2 h3
 refine wl_u (o_store hs hx hy rfl hu h4) (hk _ h1 h2 ?_ h3) ht hg ?_
 ·exact below_of_grownBy (by rw [← e2]; exact h2.g) (by have := RowH.lt hown g e2; omega) (by have := RowH.lt hown g e2; omega)
 ·rcases hq with hq | hq
  ·exact .inl hq
  ·exact .inr (Rw.of (show w.grownBy _ tg.row by rw [← hq]; exact h2.g))
end
end Go.Proofs.YtahkeoegbjopfaaGreat
namespace Go.Proofs.YtahkeoegbjopfaaGreat
set_option maxRecDepth 100000
open Go.RowKit
theorem b8_vK (l : List UInt8) : B8 l = vK .u8 (l.map UInt8.toNat) := by
 unfold B8 vK; rw [List.map_map]; rfl
theorem OwnH.to_K {w : World} {lo hi c : Nat} {A : Option Addr} {l : List UInt8} (h : OwnH w lo hi A c l) : OwnK .u8 5 w lo hi A c (l.map UInt8.toNat) := by
 have h' : RowH w lo hi 5 1 A l.length c (B8 l) := h
 rw [b8_vK] at h'
 show RowH w lo hi 5 1 A (l.map UInt8.toNat).length c _
 rw [List.length_map]
 exact h'
theorem OwnK.to_H {w : World} {lo hi c : Nat} {A : Option Addr} {l : List UInt8} (h : OwnK .u8 5 w lo hi A c (l.map UInt8.toNat)) : OwnH w lo hi A c l := by
 have h' : RowH w lo hi 5 1 A (l.map UInt8.toNat).length c (vK .u8 (l.map UInt8.toNat)) := h
 rw [List.length_map, ← b8_vK] at h'
 exact h'
theorem OwnH.some_ {w : World} {lo hi c : Nat} {A : Option Addr} {l : List UInt8} (h : OwnH w lo hi A c l) (hl : 0 < l.length) : A = some (A.getD ⟨0, 0, none⟩) := h.to_Rd.some_ (by decide) (by simpa using hl)
section
variable {P : Program} {fn : Func} {F : Ending → World → Prop} {N : Nat} {ks : List K} {ops : Array Oper} {tg : Tags} {l : List Oper} {fr : Fr} {w : World} {ty t t' : TypeId} {pos : String} {aft : Array Edge} {gd : Option (Nat × Bool)} {c j lo hi : Nat} {x y : Operand} {A : Option Addr} {bs : List UInt8} {u v : UInt8}
theorem wl_stO (hs : ∀ w, (sizeOf t).run P w = .ok 1 w) (hx : fr.ev x = some (.pointer (some (adr A j)))) (hown : OwnH w lo hi A c bs) (hy : fr.ev y = some (.int .u8 (u.toNat : Int))) (hj : j < bs.length)
  (hk : ∀ w', OwnH w' lo hi A c (bs.set j u) → Grew w w' 5 (blk A) → Below lo w w' → w'.heap.size = w.heap.size → WL P fn F N ks ops tg.tail l fr w') (ht : tg.loud = true := by rfl) (hg : onG ops fr gd = true := by rfl) (hq : tg.calm = false ∨ blk A = tg.row := by exact .inl rfl) :
  WL P fn F N ks ops tg (⟨none, .store t x y, ty, pos, aft, gd⟩ :: l) fr w :=
 wl_stK (a := u.toNat) hs hx hown.to_K hy (by rw [List.length_map]; exact hj) (fun w' h1 h2 h3 h4 => hk w' (by
  rw [show (bs.map UInt8.toNat).set j u.toNat = (bs.set j u).map UInt8.toNat from List.map_set.symm] at h1
  exact h1.to_H) h2 h3 h4) ht hg hq
theorem o_loadCut {N g i n : Nat} {fr : Fr} {w : World} {ty t t' : TypeId} {x : Operand} {cs vs : List Value} (ha' : ∀ w, (isAgg t).run P w = .ok true w) (hs : ∀ w, (sizeOf t).run P w = .ok n w) (hx : fr.ev x = some (.pointer (some ⟨g, i, none⟩))) (hB : Blk w g t' cs) (hv : (cs.drop i).take n = vs) (hn : vs.length = n) : OpV P N fr w (.load t x) ty (.agg vs.toArray) w := by
 subst hn
 refine o_loadn ha' hs hx (fun j u hj => ?_)
 rw [add_plain, hB.cell]
 rw [← hv] at hj
 have hj2 : j < vs.length := by
  rcases Nat.lt_or_ge j vs.length with h | h
  ·exact h
  ·rw [List.getElem?_eq_none (by rw [List.length_take]; omega)] at hj; cases hj
 rw [List.getElem?_take_of_lt hj2, List.getElem?_drop] at hj
 exact hj
end
end Go.Proofs.YtahkeoegbjopfaaGreat
namespace Go.Proofs.YtahkeoegbjopfaaGreat
set_option maxRecDepth 100000
open Go.RowKit
set_option maxRecDepth 100000 in
set_option maxHeartbeats 1000000 in
theorem C_f4rest {A : Option Addr} {b : By} {n c : Nat} (w : World) (hb : Rd w A b) (hn : n = b.length) (hl : b.length ≤ 64) :
  CallsR Tryz.prog 139 [.slice A n c] w fun v w' => ∃ r : N32, v = .agg (B8 r.1).toArray ∧ Below w.heap.size w w' := by
 subst hn
 refine callsR Tryz.func139 rfl rfl (by kernel_rfl) rfl ?_
 have hw := Below.refl w.heap.size w
 refine zs ?_
 refine wl_allocB Tryz.underlying108 Tryz.zeroValue108 (by rfl) ?_
 rintro g2 w2 f2 b2 i2 i2_1
 have s2 := b2.size
 replace hw := hw.trans (b2.mono hw.size)
 refine wl_nil (zs ?_)
 refine wl_allocB Tryz.underlying108 Tryz.zeroValue108 (by rfl) ?_
 rintro g3 w3 f3 b3 i3 i3_1
 have s3 := b3.size
 replace hw := hw.trans (b3.mono hw.size)
 replace f2 := f2.u b3
 refine wl_allocB Tryz.underlying108 Tryz.zeroValue108 (by rfl) ?_
 rintro g4 w4 f4 b4 i4 i4_1
 have s4 := b4.size
 replace hw := hw.trans (b4.mono hw.size)
 replace f2 := f2.u b4
 replace f3 := f3.u b4
 refine wl_nil (zs ?_)
 refine zp (o_iaddrP (0) Tryz.underlying108 Tryz.sizeOf5 rfl rfl (by omega) (by omega)) ?_
 refine wl_storeg1 Tryz.sizeOf5 rfl rfl (by rfl) f4 (by decide) ?_
 rintro w_1 f g e
 have s := g.size
 replace hw := hw.trans (below_of_grownBy g.g hw.size (by omega))
 replace f3 := f3.k g.g (ap_some (by omega))
 replace f2 := f2.k g.g (ap_some (by omega))
 clear f4
 refine wl_nil (rk_seq (zs (zm rfl ?_)))
 refine zp (o_len (t := 39) Tryz.underlying39 rfl) ?_
 refine zp (o_mul rfl rfl (by omega) (by omega)) ?_
 refine zp (o_sub rfl rfl (by omega) (by omega)) ?_
 refine za rfl (wl_nil (rk_block ?_))
 have hg23 : g2 < g3 := by omega
 have hg34 : g3 < g4 := by omega
 refine rk_joinf (fun fb fr V => ∃ (o : N32), fr = [] ++ fb.drop 1 ∧ Blk V g2 108 (B8 (List.replicate 32 0)) ∧ Blk V g3 108 (B8 o.1) ∧ Below w.heap.size w V) ?_ (fun ks hj => ?_)
 rotate_left
 ·refine rk_loopf (fun fb k fr V => ∃ (j : Nat) (v : Int) (o q : N32), fr = [(5, .int .i64 v)] ++ fb.drop 1 ∧ v = 8 * (b.length : Int) - 1 - j ∧ j ≤ 8 * b.length ∧ k = 8 * b.length - j ∧ Blk V g2 108 (B8 (List.replicate 32 0)) ∧ Blk V g3 108 (B8 o.1) ∧ Blk V g4 108 (B8 q.1) ∧ Below w.heap.size w V) (n := 8 * b.length) (Fr.le_of (by kernel_rfl) (by kernel_rfl) (by repeat' constructor)) ⟨0, _, n32z, n32z.put 0 (lo8 1), rfl, by omega, by omega, rfl, by assumption, by assumption, by assumption, hw⟩ ?_
  clear f2 f3 f hw
  rintro k fr V ⟨j, v, o, q, rfl, hv, hj2, rfl, f2, f3, f4, hw⟩
  have shw := hw.size
  have hol := o.2
  have hql := q.2
  first | refine zf ?_ | refine zg ?_
  by_cases hjl : j < 8 * b.length
  ·obtain ⟨t, ht⟩ : ∃ t : Nat, v = t := ⟨v.toNat, by omega⟩
   subst ht
   have htl : t < 8 * b.length := by omega
   refine rk_seq (zs (zm rfl ?_))
   refine zp (o_ge rfl rfl) ?_
   refine wl_nil ?_
   refine rk_true rfl ?_
   refine rk_skip (rk_seq (rk_block (zs ?_)))
   refine wl_r (o_ldBa Tryz.isAgg108 Tryz.sizeOf108 rfl f3 hol) ?_
   refine wl_r (o_ldBa Tryz.isAgg108 Tryz.sizeOf108 rfl f3 hol) ?_
   refine wl_call rfl (C_f4plus _) ?_
   rintro v17 w17 ⟨r17, ⟨rfl, b17⟩⟩
   have s17 := b17.size
   replace hw := hw.trans (b17.mono hw.size)
   replace f4 := f4.u b17
   replace f3 := f3.u b17
   replace f2 := f2.u b17
   refine wl_stBa Tryz.sizeOf108 rfl f3 rfl (by omega) hol ?_
   rintro w_2 f g_1 e_1
   have s_1 := g_1.size
   replace hw := hw.trans (below_of_grownBy g_1.g hw.size (by omega))
   replace f2 := f2.k g_1.g (ap_some (by omega))
   replace f4 := f4.k g_1.g (ap_some (by omega))
   clear f3
   refine wl_nil (zs (zm rfl (zm rfl ?_)))
   refine zp (o_quo rfl rfl (by omega) (by omega) (by omega)) ?_
   refine zp (o_iaddrA1 (t / 8) Tryz.underlying39 Tryz.sizeOf5 rfl rfl (by omega) (Reads.some_ hb.to_Reads (by decide) (by omega)) (by omega)) ?_
   refine wl_r (o_loadB Tryz.isAgg5 rfl (hb.u hw) (by omega)) ?_
   refine zm rfl ?_
   refine zp (o_rem rfl rfl (by omega) (by omega)) ?_
   refine zp (o_convu64 (src := 3) (dst := 102) Tryz.underlying3 Tryz.underlying102 rfl (by omega) (by omega)) ?_
   refine zp (o_shr8 (t % 8) rfl rfl (by omega) (by omega)) ?_
   refine zp (o_remz rfl rfl (by omega)) ?_
   refine zp (o_eq rfl rfl) ?_
   refine wl_nil ?_
   refine rk_if rfl (fun h28 => ?_) (fun h28 => ?_)
   ·refine rk_region ?_
    refine wl_r (o_ldBa Tryz.isAgg108 Tryz.sizeOf108 rfl f (by omega)) ?_
    refine wl_r (o_ldBa Tryz.isAgg108 Tryz.sizeOf108 rfl f4 hql) ?_
    refine wl_call rfl (C_f4plus _) ?_
    rintro v31 w31 ⟨r31, ⟨rfl, b31⟩⟩
    have s31 := b31.size
    replace hw := hw.trans (b31.mono hw.size)
    replace f4 := f4.u b31
    replace f2 := f2.u b31
    replace f := f.u b31
    refine wl_stBa Tryz.sizeOf108 rfl f rfl (by omega) (by omega) ?_
    rintro w_3 f_1 g_2 e_2
    have s_2 := g_2.size
    replace hw := hw.trans (below_of_grownBy g_2.g hw.size (by omega))
    replace f2 := f2.k g_2.g (ap_some (by omega))
    replace f4 := f4.k g_2.g (ap_some (by omega))
    clear f
    refine wl_nil ?_
    refine rk_blk ?_
    refine rk_region (zm rfl ?_)
    refine zp (o_sub rfl rfl (by omega) (by omega)) ?_
    refine za rfl (wl_nil ?_)
    exact rk_againf (Fr.le_of (by kernel_rfl) (by kernel_rfl) (by repeat' constructor)) ⟨j + 1, _, _, q, rfl, by omega, by omega, rfl, f2, by assumption, f4, hw⟩ (by omega)
   ·refine rk_skip ?_
    refine rk_blk ?_
    refine rk_region (zm rfl ?_)
    refine zp (o_sub rfl rfl (by omega) (by omega)) ?_
    refine za rfl (wl_nil ?_)
    exact rk_againf (Fr.le_of (by kernel_rfl) (by kernel_rfl) (by repeat' constructor)) ⟨j + 1, _, _, q, rfl, by omega, by omega, rfl, f2, by assumption, f4, hw⟩ (by omega)
  ·refine rk_seq ?_
   refine zs (zm rfl ?_)
   refine zp (o_ge rfl rfl) ?_
   refine wl_nil ?_
   refine rk_if rfl (fun h12 => absurd h12 (by omega)) (fun h12 => ?_)
   refine rk_exit rfl ?_
   exact rk_tof hj (Fr.le_of (by kernel_rfl) (by kernel_rfl) (by repeat' constructor)) ⟨o, rfl, f2, f3, hw⟩
 clear f2 f3 f hw
 rintro fr V ⟨o, rfl, f2, f3, hw⟩
 have shw := hw.size
 have hol := o.2
 first | refine zf ?_ | refine zg ?_
 refine zs ?_
 refine wl_r (o_ldBa Tryz.isAgg108 Tryz.sizeOf108 rfl f3 hol) ?_
 refine wl_stBa Tryz.sizeOf108 rfl f2 rfl hol (by rfl) ?_
 rintro w_2 f g_1 e_1
 have s_1 := g_1.size
 replace hw := hw.trans (below_of_grownBy g_1.g hw.size (by omega))
 replace f3 := f3.k g_1.g (ap_some (by omega))
 clear f2
 refine wl_nil ?_
 refine ret_cell rfl rfl Tryz.isAgg108 Tryz.sizeOf108 (by assumption) (by first | exact vI10 | exact b32 | exact ptC_len _ | exact frC_len _ | rfl) ?_
 exact ⟨o, rfl, hw⟩
set_option maxRecDepth 100000 in
theorem C_f4Rest {A : Option Addr} {b : By} {n c : Nat} (w : World) (hb : Rd w A b) (hn : n = b.length) (hl : b.length ≤ 64) :
  CallsR Tryz.prog 105 [.slice A n c] w fun v w' => ∃ r : N32, v = .tuple #[.agg (B8 r.1).toArray, .int .i64 0] ∧ Below w.heap.size w w' := by
 subst hn
 refine callsR Tryz.func105 rfl rfl (by kernel_rfl) rfl ?_
 have hw := Below.refl w.heap.size w
 refine zs ?_
 refine wl_allocB Tryz.underlying108 Tryz.zeroValue108 (by rfl) ?_
 rintro g2 w2 f2 b2 i2 i2_1
 have s2 := b2.size
 replace hw := hw.trans (b2.mono hw.size)
 refine za rfl (wl_nil (rk_seq (zs (zm rfl ?_))))
 refine zp (o_len (t := 39) Tryz.underlying39 rfl) ?_
 refine zp (o_gt rfl rfl) ?_
 refine wl_nil ?_
 refine rk_if rfl (fun h6 => absurd h6 (by omega)) (fun h6 => ?_)
 refine rk_skip (zs (zm rfl ?_))
 refine wl_call rfl (C_f4rest _ (hb.u hw) rfl (by omega)) ?_
 rintro v9 w9 ⟨r9, ⟨rfl, b9⟩⟩
 have s9 := b9.size
 replace hw := hw.trans (b9.mono hw.size)
 replace f2 := f2.u b9
 refine wl_stBa Tryz.sizeOf108 rfl f2 rfl (by omega) (by rfl) ?_
 rintro w_1 f g e
 have s := g.size
 replace hw := hw.trans (below_of_grownBy g.g hw.size (by omega))
 clear f2
 refine za rfl (wl_nil ?_)
 refine ret_any rfl (.cell rfl Tryz.isAgg108 Tryz.sizeOf108 (by assumption) (by first | exact vI10 | exact b32 | exact ptC_len _ | exact frC_len _ | rfl) <| .tmp rfl <| .nil) (by simp) ?_
 exact ⟨_, rfl, hw⟩
set_option maxRecDepth 100000 in
set_option maxHeartbeats 1000000 in
theorem C_f4Mul {a b : N32} (w : World) :
  CallsR Tryz.prog 141 [.agg (B8 a.1).toArray, .agg (B8 b.1).toArray] w fun v w' => ∃ r : N32, v = .agg (B8 r.1).toArray ∧ Below w.heap.size w w' := by
 have ha := a.2
 have hb := b.2
 refine callsR Tryz.func141 rfl rfl (by kernel_rfl) rfl ?_
 have hw := Below.refl w.heap.size w
 refine zs ?_
 refine wl_boxg _ rfl (by rfl) ?_
 rintro g2 w2 f2 b2 i2 i2_1
 have s2 := b2.size
 replace hw := hw.trans (b2.mono hw.size)
 refine wl_boxg _ rfl (by rfl) ?_
 rintro g3 w3 f3 b3 i3 i3_1
 have s3 := b3.size
 replace hw := hw.trans (b3.mono hw.size)
 replace f2 := f2.u b3
 refine wl_allocB Tryz.underlying108 Tryz.zeroValue108 (by rfl) ?_
 rintro g4 w4 f4 b4 i4 i4_1
 have s4 := b4.size
 replace hw := hw.trans (b4.mono hw.size)
 replace f2 := f2.u b4
 replace f3 := f3.u b4
 refine wl_nil (zs ?_)
 refine wl_allocg [_, _, _, _, _, _, _, _, _, _, _, _, _, _, _, _, _, _, _, _, _, _, _, _, _, _, _, _, _, _, _, _, _, _, _, _, _, _, _, _, _, _, _, _, _, _, _, _, _, _, _, _, _, _, _, _, _, _, _, _, _, _, _, _] Tryz.zeroValue191 (by rfl) ?_
 rintro g5 w5 f5 b5 i5 i5_1
 have s5 := b5.size
 replace hw := hw.trans (b5.mono hw.size)
 replace f3 := f3.u b5
 replace f2 := f2.u b5
 replace f4 := f4.u b5
 refine wl_nil (rk_seq (zs (za rfl (wl_nil (rk_block ?_)))))
 have hg23 : g2 < g3 := by omega
 have hg34 : g3 < g4 := by omega
 have hg45 : g4 < g5 := by omega
 obtain ⟨P, hP, f5⟩ : ∃ P : List Int, P.length = 64 ∧ Blk w5 g5 191 (vI P) := ⟨List.replicate 64 0, rfl, f5⟩
 refine rk_joinf (fun fb fr V => ∃ (P : List Int), fr = [] ++ fb.drop 1 ∧ P.length = 64 ∧ Blk V g4 108 (B8 (List.replicate 32 0)) ∧ Blk V g5 191 (vI P) ∧ Below w.heap.size w V) ?_ (fun ks hj => ?_)
 rotate_left
 ·refine rk_loopf (fun fb k fr V => ∃ (i : Nat) (v : Int) (P : List Int), fr = [(6, .int .i64 v)] ++ fb.drop 1 ∧ v = i ∧ i ≤ 32 ∧ k = 32 - i ∧ P.length = 64 ∧ Blk V g2 108 (B8 a.1) ∧ Blk V g3 108 (B8 b.1) ∧ Blk V g4 108 (B8 (List.replicate 32 0)) ∧ Blk V g5 191 (vI P) ∧ Below w.heap.size w V) (n := 32) (Fr.le_of (by kernel_rfl) (by kernel_rfl) (by repeat' constructor)) ⟨0, _, P, rfl, rfl, by omega, rfl, hP, f2, f3, f4, f5, hw⟩ ?_
  clear f2 f3 f4 f5 hw hP P
  rintro k fr V ⟨i, v, P, rfl, rfl, hi, rfl, hP, f2, f3, f4, f5, hw⟩
  have shw := hw.size
  first | refine zf ?_ | refine zg ?_
  by_cases hil : i < 32
  ·refine rk_seq ?_
   refine zs (zm rfl ?_)
   refine zp (o_lt rfl rfl) ?_
   refine wl_nil ?_
   refine rk_if rfl (fun h12 => ?_) (fun h12 => h12.elim (by omega))
   refine rk_skip (rk_seq (rk_block (zs (za rfl (wl_nil (rk_block ?_))))))
   refine rk_joinf (fun fb fr V => ∃ (P : List Int), fr = [] ++ fb.drop 1 ∧ P.length = 64 ∧ Blk V g2 108 (B8 a.1) ∧ Blk V g3 108 (B8 b.1) ∧ Blk V g4 108 (B8 (List.replicate 32 0)) ∧ Blk V g5 191 (vI P) ∧ Below w.heap.size w V) ?_ (fun ks hj => ?_)
   rotate_left
   ·refine rk_loopf (fun fb k fr V => ∃ (m : Nat) (v : Int) (P : List Int), fr = [(7, .int .i64 v)] ++ fb.drop 1 ∧ v = m ∧ m ≤ 32 ∧ k = 32 - m ∧ P.length = 64 ∧ Blk V g2 108 (B8 a.1) ∧ Blk V g3 108 (B8 b.1) ∧ Blk V g4 108 (B8 (List.replicate 32 0)) ∧ Blk V g5 191 (vI P) ∧ Below w.heap.size w V) (n := 32) (Fr.le_of (by kernel_rfl) (by kernel_rfl) (by repeat' constructor)) ⟨0, _, P, rfl, rfl, by omega, rfl, hP, f2, f3, f4, f5, hw⟩ ?_
    clear f2 f3 f4 f5 hw hP P
    rintro k fr V ⟨m, v, P, rfl, rfl, hm, rfl, hP, f2, f3, f4, f5, hw⟩
    have shw := hw.size
    first | refine zf ?_ | refine zg ?_
    by_cases hml : m < 32
    ·refine rk_seq ?_
     refine zs (zm rfl ?_)
     refine zp (o_lt rfl rfl) ?_
     refine wl_nil ?_
     refine rk_if rfl (fun h16 => ?_) (fun h16 => h16.elim (by omega))
     refine rk_skip (rk_seq (rk_block ?_))
     refine rk_draw (id := 8) (none) [0, 0, 3, 0, 0, 24, 32, 64, 0, 256, 512, 1024, 0, 4096, 8192, 16384, 34816, 65664, 262143, 524287] [0, 0, 3, 0, 0, 24, 56, 120, 0, 256, 768, 1792, 0, 4096, 12288, 28672, 65280, 131064, 262143, 524287] 524288 0 [(.p, 0), (.p, 1), (.p, 2), (.p, 3), (.p, 4), (.p, 5), (.p, 6), (.r, 7), (.p, 8), (.p, 9), (.r, 10), (.p, 11), (.p, 12), (.p, 13), (.r, 14), (.p, 15), (.p, 16), (.p, 17), (.p, 18), (.l, 19)] (by kernel_rfl) (by kernel_rfl) (by kernel_rfl) (by kernel_rfl) (by kernel_rfl) ?_
     replace hw := hw.drew
     replace f5 := f5.d
     replace f4 := f4.d
     replace f3 := f3.d
     replace f2 := f2.d
     refine zm rfl (zm rfl ?_)
     refine zp (o_add rfl rfl (by omega) (by omega)) ?_
     refine zm rfl (zm rfl ?_)
     refine zp (o_add rfl rfl (by omega) (by omega)) ?_
     refine zp (o_iaddrP (i + m) Tryz.underlying191 Tryz.sizeOf3 rfl rfl (by omega) (by omega)) ?_
     refine wl_r (o_ldI Tryz.isAgg3 rfl f5 (by omega)) ?_
     refine zm rfl ?_
     refine zp (o_iaddrP (i) Tryz.underlying108 Tryz.sizeOf5 rfl rfl rfl (by omega)) ?_
     refine wl_r (o_ldB Tryz.isAgg5 rfl f2 (by omega)) ?_
     refine zp (o_conv8I Tryz.underlying5 Tryz.underlying3 rfl) ?_
     refine zm rfl ?_
     refine zp (o_iaddrP (m) Tryz.underlying108 Tryz.sizeOf5 rfl rfl rfl (by omega)) ?_
     refine wl_r (o_ldB Tryz.isAgg5 rfl f3 (by omega)) ?_
     refine zp (o_conv8I Tryz.underlying5 Tryz.underlying3 rfl) ?_
     refine zp (o_mulI rfl rfl) ?_
     refine zp (o_addI rfl rfl) ?_
     refine zp (o_iaddrP (i + m) Tryz.underlying191 Tryz.sizeOf3 rfl rfl (by omega) (by omega)) ?_
     refine wl_stI Tryz.sizeOf3 rfl f5 rfl (by omega) ?_
     rintro w_1 f g e
     simp only [drew_size] at e
     have s := g.size
     simp only [drew_size] at s
     replace hw := hw.trans (below_of_grownBy g.g hw.size (by omega))
     replace f2 := f2.k g.g (ap_some (by omega))
     replace f3 := f3.k g.g (ap_some (by omega))
     replace f4 := f4.k g.g (ap_some (by omega))
     clear f5
     refine wl_nild ?_
     refine rk_blk ?_
     refine rk_region (zm rfl ?_)
     refine zp (o_add rfl rfl (by omega) (by omega)) ?_
     refine za rfl (wl_nil ?_)
     exact rk_againf (Fr.le_of (by kernel_rfl) (by kernel_rfl) (by repeat' constructor)) ⟨m + 1, _, _, rfl, by omega, by omega, rfl, by rw [List.length_set]; exact hP, f2, f3, f4, f, hw⟩ (by omega)
    ·refine rk_seq ?_
     refine zs (zm rfl ?_)
     refine zp (o_lt rfl rfl) ?_
     refine wl_nil ?_
     refine rk_if rfl (fun h16 => absurd h16 (by omega)) (fun h16 => ?_)
     refine rk_exit rfl ?_
     exact rk_tof hj (Fr.le_of (by kernel_rfl) (by kernel_rfl) (by repeat' constructor)) ⟨P, rfl, hP, f2, f3, f4, f5, hw⟩
   clear f2 f3 f4 f5 hw hP P
   rintro fr V ⟨P, rfl, hP, f2, f3, f4, f5, hw⟩
   have shw := hw.size
   first | refine zf ?_ | refine zg ?_
   refine rk_blk ?_
   refine rk_region (zm rfl ?_)
   refine zp (o_add rfl rfl (by omega) (by omega)) ?_
   refine za rfl (wl_nil ?_)
   exact rk_againf (Fr.le_of (by kernel_rfl) (by kernel_rfl) (by repeat' constructor)) ⟨i + 1, _, P, rfl, by omega, by omega, rfl, hP, f2, f3, f4, f5, hw⟩ (by omega)
  ·refine rk_seq ?_
   refine zs (zm rfl ?_)
   refine zp (o_lt rfl rfl) ?_
   refine wl_nil ?_
   refine rk_if rfl (fun h12 => absurd h12 (by omega)) (fun h12 => ?_)
   refine rk_exit rfl ?_
   exact rk_tof hj (Fr.le_of (by kernel_rfl) (by kernel_rfl) (by repeat' constructor)) ⟨P, rfl, hP, f4, f5, hw⟩
 clear f2 f3 f4 f5 hw hP P
 rintro fr V ⟨P, rfl, hP, f4, f5, hw⟩
 have shw := hw.size
 have hl4 := f4.lt
 have hl5 := f5.lt
 first | refine zf ?_ | refine zg ?_
 refine zs ?_
 refine wl_mkBz (64) rfl rfl (by omega) (by rfl) (by omega) (by rfl) ?_
 rintro A38 w38 f38 b38
 have qf38 := f38.cap
 have s38 := b38.size
 replace hw := hw.trans (b38.mono hw.size)
 replace f5 := f5.u b38
 replace f4 := f4.u b38
 refine za rfl (wl_nil (zs (za rfl (wl_nil (rk_seq (zs (za rfl (wl_nil (rk_block ?_)))))))))
 obtain ⟨Z, hZ, f38⟩ : ∃ Z : By, Z.length = 64 ∧ OwnH w38 w.heap.size w38.heap.size A38 64 Z := ⟨_, List.length_replicate, f38.base (by omega) (Nat.le_refl _)⟩
 refine rk_joinf (fun fb fr V => ∃ (c : Int) (Z : By), fr = [(9, .int .i64 c)] ++ fb.drop 2 ∧ Z.length = 64 ∧ OwnH V w.heap.size V.heap.size A38 64 Z ∧ Blk V g4 108 (B8 (List.replicate 32 0)) ∧ Below w.heap.size w V) ?_ (fun ks hj => ?_)
 rotate_left
 ·refine rk_loopf (fun fb k fr V => ∃ (i : Nat) (v c : Int) (Z : By), fr = [(10, .int .i64 v), (9, .int .i64 c)] ++ fb.drop 2 ∧ v = i ∧ i ≤ 64 ∧ k = 64 - i ∧ Z.length = 64 ∧ OwnH V w.heap.size V.heap.size A38 64 Z ∧ Blk V g4 108 (B8 (List.replicate 32 0)) ∧ Blk V g5 191 (vI P) ∧ Below w.heap.size w V) (n := 64) (Fr.le_of (by kernel_rfl) (by kernel_rfl) (by repeat' constructor)) ⟨0, _, _, Z, rfl, rfl, by omega, rfl, hZ, f38, f4, f5, hw⟩ ?_
  clear f38 f4 f5 hw hZ Z
  rintro k fr V ⟨i, v, c, Z, rfl, rfl, hi, rfl, hZ, f38, f4, f5, hw⟩
  have shw := hw.size
  first | refine zf ?_ | refine zg ?_
  by_cases hil : i < 64
  ·refine rk_seq ?_
   refine zs (zm rfl ?_)
   refine zp (o_lt rfl rfl) ?_
   refine wl_nil ?_
   refine rk_if rfl (fun h40 => ?_) (fun h40 => h40.elim (by omega))
   refine rk_skip (rk_seq (rk_block (zs (zm rfl (zm rfl ?_)))))
   refine zp (o_iaddrP (i) Tryz.underlying191 Tryz.sizeOf3 rfl rfl rfl (by omega)) ?_
   refine wl_r (o_ldI Tryz.isAgg3 rfl f5 (by omega)) ?_
   refine zp (o_addI rfl rfl) ?_
   refine za rfl (wl_nil (zs (zm rfl (zm rfl (zm rfl ?_)))))
   refine zp (o_remz rfl rfl (by omega)) ?_
   refine zp (o_convI8 Tryz.underlying3 Tryz.underlying5 rfl) ?_
   refine zp (o_iaddrA1 (i) Tryz.underlying39 Tryz.sizeOf5 rfl rfl rfl (f38.some_ (by omega)) (by omega)) ?_
   refine wl_stO Tryz.sizeOf5 rfl f38 rfl (by omega) ?_
   rintro w_1 f g b_1 e
   have qf := f.cap
   have s := g.size
   replace hw := hw.trans (b_1.mono (by omega))
   replace f5 := f5.y g (by decide)
   replace f4 := f4.y g (by decide)
   clear f38
   refine wl_nil (rk_region (zm rfl ?_))
   refine zp (o_quoI rfl rfl (by omega)) ?_
   refine za rfl (wl_nil ?_)
   refine rk_blk ?_
   refine rk_region (zm rfl ?_)
   refine zp (o_add rfl rfl (by omega) (by omega)) ?_
   refine za rfl (wl_nil ?_)
   exact rk_againf (Fr.le_of (by kernel_rfl) (by kernel_rfl) (by repeat' constructor)) ⟨i + 1, _, _, Z.set i (lo8 ((wrI (c + P.getD i 0)).tmod 256)), rfl, by omega, by omega, rfl, (List.length_set ..).trans hZ, f.base (Nat.le_refl _) (by omega), f4, f5, hw⟩ (by omega)
  ·refine rk_seq ?_
   refine zs (zm rfl ?_)
   refine zp (o_lt rfl rfl) ?_
   refine wl_nil ?_
   refine rk_if rfl (fun h40 => absurd h40 (by omega)) (fun h40 => ?_)
   refine rk_exit rfl ?_
   exact rk_tof hj (Fr.le_of (by kernel_rfl) (by kernel_rfl) (by repeat' constructor)) ⟨c, Z, rfl, hZ, f38, f4, hw⟩
 clear f38 f4 f5 hw hZ Z
 rintro fr V ⟨c, Z, rfl, hZ, f38, f4, hw⟩
 have shw := hw.size
 first | refine zf ?_ | refine zg ?_
 refine zs (zm rfl ?_)
 refine wl_call rfl (C_f4rest _ f38.to_Rd (by omega) (by omega)) ?_
 rintro v57 w57 ⟨r57, ⟨rfl, b57⟩⟩
 have s57 := b57.size
 replace hw := hw.trans (b57.mono hw.size)
 replace f4 := f4.u b57
 replace f38 := f38.u b57
 refine wl_stBa Tryz.sizeOf108 rfl f4 rfl (by omega) (by rfl) ?_
 rintro w_1 f g e
 have s := g.size
 replace hw := hw.trans (below_of_grownBy g.g hw.size (by omega))
 replace f38 := f38.y g (by decide)
 clear f4
 refine wl_nil ?_
 refine ret_cell rfl rfl Tryz.isAgg108 Tryz.sizeOf108 (by assumption) (by first | exact vI10 | exact b32 | exact ptC_len _ | exact frC_len _ | rfl) ?_
 exact ⟨_, rfl, hw⟩
set_option maxRecDepth 100000 in
theorem C_f4MulAdd {a b c : N32} (w : World) :
  CallsR Tryz.prog 106 [.agg (B8 a.1).toArray, .agg (B8 b.1).toArray, .agg (B8 c.1).toArray] w fun v w' => ∃ r : N32, v = .agg (B8 r.1).toArray ∧ Below w.heap.size w w' := by
 have ha := a.2
 have hb := b.2
 have hc := c.2
 refine callsR Tryz.func106 rfl rfl (by kernel_rfl) rfl ?_
 have hw := Below.refl w.heap.size w
 refine zs ?_
 refine wl_boxg _ rfl (by rfl) ?_
 rintro g3 w3 f3 b3 i3 i3_1
 have s3 := b3.size
 replace hw := hw.trans (b3.mono hw.size)
 refine wl_boxg _ rfl (by rfl) ?_
 rintro g4 w4 f4 b4 i4 i4_1
 have s4 := b4.size
 replace hw := hw.trans (b4.mono hw.size)
 replace f3 := f3.u b4
 refine wl_boxg _ rfl (by rfl) ?_
 rintro g5 w5 f5 b5 i5 i5_1
 have s5 := b5.size
 replace hw := hw.trans (b5.mono hw.size)
 replace f3 := f3.u b5
 replace f4 := f4.u b5
 refine wl_allocB Tryz.underlying108 Tryz.zeroValue108 (by rfl) ?_
 rintro g6 w6 f6 b6 i6 i6_1
 have s6 := b6.size
 replace hw := hw.trans (b6.mono hw.size)
 replace f4 := f4.u b6
 replace f3 := f3.u b6
 replace f5 := f5.u b6
 refine wl_nil (rk_seq ?_)
 refine rk_drawo (id := 1) (none) [0, 0, 3, 0, 12, 20, 63] [0, 0, 3, 0, 15, 31, 63] 116 0 [0, 1, 3, 2, 4, 5, 6] [(.r, 0), (.r, 1), (.p, 3), (.l, 2), (.l, 4), (.l, 5), (.l, 6)] (by kernel_rfl) (by kernel_rfl) (by kernel_rfl) (by kernel_rfl) (by kernel_rfl) ?_
 dsimp only [inOrder, nthOp]
 replace hw := hw.drew
 replace f5 := f5.d
 replace f3 := f3.d
 replace f4 := f4.d
 replace f6 := f6.d
 refine wl_r (o_ldBa Tryz.isAgg108 Tryz.sizeOf108 rfl f3 ha) ?_
 refine wl_r (o_ldBa Tryz.isAgg108 Tryz.sizeOf108 rfl f4 hb) ?_
 refine zp (o_slice_arr (t := 108) Tryz.underlying108 Tryz.sizeOf5 rfl) ?_
 refine wl_call rfl (C_f4Mul _) ?_
 rintro v9 w9 ⟨r9, ⟨rfl, b9⟩⟩
 simp only [drew_size] at b9
 have s9 := b9.size
 simp only [drew_size] at s9
 replace hw := hw.trans (b9.mono hw.size)
 replace f6 := f6.u b9
 replace f4 := f4.u b9
 replace f3 := f3.u b9
 replace f5 := f5.u b9
 refine wl_call rfl (C_f4rest _ f5.to_Rd (by omega) (by omega)) ?_
 rintro v11 w11 ⟨r11, ⟨rfl, b11⟩⟩
 have s11 := b11.size
 replace hw := hw.trans (b11.mono hw.size)
 replace f5 := f5.u b11
 replace f3 := f3.u b11
 replace f4 := f4.u b11
 replace f6 := f6.u b11
 refine wl_call rfl (C_f4plus _) ?_
 rintro v12 w12 ⟨r12, ⟨rfl, b12⟩⟩
 have s12 := b12.size
 replace hw := hw.trans (b12.mono hw.size)
 replace f6 := f6.u b12
 replace f4 := f4.u b12
 replace f3 := f3.u b12
 replace f5 := f5.u b12
 refine wl_stBa Tryz.sizeOf108 rfl f6 rfl (by omega) (by rfl) ?_
 rintro w_1 f g e
 have s := g.size
 replace hw := hw.trans (below_of_grownBy g.g hw.size (by omega))
 replace f5 := f5.k g.g (ap_some (by omega))
 replace f3 := f3.k g.g (ap_some (by omega))
 replace f4 := f4.k g.g (ap_some (by omega))
 clear f6
 refine wl_nild ?_
 refine ret_cell rfl rfl Tryz.isAgg108 Tryz.sizeOf108 (by assumption) (by first | exact vI10 | exact b32 | exact ptC_len _ | exact frC_len _ | rfl) ?_
 exact ⟨_, rfl, hw⟩
end Go.Proofs.YtahkeoegbjopfaaGreat
namespace Go.Proofs.YtahkeoegbjopfaaGreat
set_option maxRecDepth 100000
open Go.RowKit
end Go.Proofs.YtahkeoegbjopfaaGreat
namespace Go.Proofs.YtahkeoegbjopfaaGreat
set_option maxRecDepth 100000
open Go.RowKit
end Go.Proofs.YtahkeoegbjopfaaGreat
namespace Go.Proofs.YtahkeoegbjopfaaGreat
set_option maxRecDepth 100000
open Go.RowKit
def zeroS (m : Nat) : ByteArray := ⟨(List.replicate m (0 : UInt8)).toArray⟩
theorem zeroS_size (m : Nat) : (zeroS m).size = m := by
 show (List.replicate m (0 : UInt8)).toArray.size = m
 simp
theorem zeroS_cells (m : Nat) : Go.Lib.strCells (zeroS m) = B8 (List.replicate m 0) := by
 simp [Go.Lib.strCells, zeroS, B8]
section
variable {P : Program} (w : World)
theorem run_append_zs (t u ti ty e : TypeId) (i : TypeInfo) (ht : P.underlying t = some (.slice e)) (hti : P.underlying ti = some (.int .i64)) (hu : P.underlying u = some .string) (hi : P.info? e = some i) (hz : i.zero = some (.int .u8 0)) (hsize : i.size = 1) (hby : i.bytes = 1)
  (A : Option Addr) (n c m : Nat) (h0 : 0 < m) (h : n + m ≤ 4000000000) :
  (Builtin.append_ #[t, ti] ty #[.slice A n c, .int .i64 (m : Int)]).run P w = (Builtin.append_ #[t, u] ty #[.slice A n c, .string (zeroS m)]).run P w := by
 have hw : IntKind.i64.wrap (m : Int) = m := i64_in (by omega) (by omega)
 have hneg : ¬ ((m : Int) < 0) := by omega
 have hb1 : ¬ (281474976710656 < (m : Int)) := by omega
 have h63 : ¬ (9223372036854775807 < ((n : Int) + (m : Int))) := by omega
 have hz1 : (zeroS m).data.toList = List.replicate m 0 := rfl
 have hdl : List.take m (List.map (fun b : UInt8 => Value.int .u8 (b.toNat : Int)) (zeroS m).data.toList) = List.replicate m (Value.int .u8 0) := by
  rw [hz1, List.map_replicate, List.take_of_length_le (by rw [List.length_replicate]; exact Nat.le_refl _)]; rfl
 have hda : Array.map (fun b : UInt8 => Value.int .u8 (b.toNat : Int)) (zeroS m).data = Array.replicate m (Value.int .u8 0) := by
  apply Array.ext'
  rw [Array.toList_map, hz1, List.map_replicate, Array.toList_replicate]; rfl
 have hex : (Array.replicate m (Value.int .u8 0)).extract 0 m = Array.replicate m (Value.int .u8 0) := by
  apply Array.ext
  ·simp
  ·intro j h1 h2; simp
 have hzc : ∀ k, Builtin.zeroCells (Value.int .u8 0).cells k = (Array.replicate k (Value.int .u8 0)) := fun k => by
  show Builtin.zeroCells #[Value.int .u8 0] k = _
  apply Array.ext
  ·simp [Builtin.zeroCells]
  ·intro j h1 h2
   simp [Builtin.zeroCells, Nat.mod_one]
 have hm0 : m ≠ 0 := by omega
 by_cases hroom : n + m ≤ c
 ·simp [Builtin.append_, run_underlying ht, run_underlying hti, run_underlying hu, sizeOf, typeInfo, zeroValue, hi, hz, hsize, hby, asInt, asIntOf, hw, hneg, hb1, Builtin.lenOf, zeroS_size, hroom, Builtin.firstCells, hdl, hm0, hzc]
 ·have h48 := nextslicecap_le (need := n + m) (old := c) (by omega)
  have h48' : ¬ (281474976710656 < Builtin.nextslicecap (n + m) c) := by omega
  simp [Builtin.append_, run_underlying ht, run_underlying hti, run_underlying hu, sizeOf, typeInfo, zeroValue, hi, hz, hsize, hby, asInt, asIntOf, hw, hneg, hb1, h63, Builtin.lenOf, zeroS_size, hroom, Builtin.firstCells, hdl, hm0, hzc, h48', hda, hex]
end
theorem rd_upto {w : World} {A : Option Addr} {p : List UInt8} (h : Rd w A p) (k : Nat) : Rd w A (p.take k) := by
 refine ⟨by rw [B8_length, Nat.mul_one], fun hne => ?_⟩
 have hpne : B8 p ≠ [] := fun e => by
  apply hne
  have : p = [] := by cases p with | nil => rfl | cons a b => cases e
  rw [this]; rw [List.take_nil]; rfl
 obtain ⟨b, o, rfl, hc⟩ := h.2 hpne
 refine ⟨b, o, rfl, fun j u hj => hc j u ?_⟩
 unfold B8 at hj ⊢
 rw [List.getElem?_map] at hj ⊢
 rcases Nat.lt_or_ge j k with h3 | h3
 ·rwa [List.getElem?_take_of_lt h3] at hj
 ·rw [List.getElem?_eq_none (by rw [List.length_take]; omega)] at hj; cases hj
section
variable {P : Program} {fn : Func} {F : Ending → World → Prop} {N : Nat} {ks : List K} {ops : Array Oper} {tg : Tags} {l : List Oper} {fr : Fr} {w : World} {ty t ti : TypeId} {pos : String} {aft : Array Edge} {gd : Option (Nat × Bool)} {d n c lo hi : Nat} {x y : Operand} {A : Option Addr} {s : List UInt8}
theorem wl_appZs (T : U8 P t) {u : TypeId} (hti : P.underlying ti = some (.int .i64)) (hu : P.underlying u = some .string) (m : Nat) {M : Int} (hx : fr.ev x = some (.slice A n c)) (hown : OwnH w lo hi A c s) (hn : n = s.length) (hy : fr.ev y = some (.int .i64 M)) (hM : M = (m : Int)) (hm : 0 < m) (hlen : s.length + m ≤ 4000000000) (hB : lo ≤ w.heap.size)
  (h : ∀ A' c' w', OwnH w' lo w'.heap.size A' c' (s ++ List.replicate m 0) → Grew w w' 5 (blk A) → Below lo w w' → WL P fn F N ks ops tg.tail l ((d, .slice A' (s ++ List.replicate m 0).length c') :: fr) w')
  (ht : tg.loud = true := by rfl) (hg : onG ops fr gd = true := by rfl) (hd : Nat.blt d N = true := by rfl) (hq : tg.calm = false ∨ blk A = none ∨ blk A = tg.row := by exact .inl rfl) :
  WL P fn F N ks ops tg (⟨some d, .call { callee := .builtin .append, args := #[x, y], argTypes := #[t, ti] }, ty, pos, aft, gd⟩ :: l) fr w := by
 subst hn; subst hM
 obtain ⟨i, hi', hz, hs, hb⟩ := info_parts T.hi
 obtain ⟨v', w', hrun, h2, h3, _⟩ := Go.Lib.run_append_own_string (P := P) w lo t u ty 5 i T.ht hu hi' hz hs hb (.slice A s.length c) s.length (B8 s) hown.o (zeroS m) (by rw [zeroS_size]; simp only [maxLen]; omega) (by rw [zeroS_size]; omega) hB
 rw [← run_append_zs (P := P) w t u ti ty 5 i T.ht hti hu hi' hz hs hb A s.length c m hm (by omega)] at hrun
 obtain ⟨A', c', rfl⟩ := ownsRow_shape h2
 rw [blk_own] at h3
 rw [zeroS_size, zeroS_cells, ← B8_append] at h2
 have hl : (s ++ List.replicate m 0).length = s.length + m := by rw [List.length_append, List.length_replicate]
 rw [zeroS_size] at hrun
 rw [← hl] at h2 hrun
 have hlt : ∀ b, blk A = some b → lo ≤ b ∧ b < w.heap.size := RowH.lt hown
 have hO : OwnH w' lo w'.heap.size A' c' (s ++ List.replicate m 0) := ⟨h2, fun k hk => (World.ownsRow.lt h2 k (by rw [blk_own]; exact hk)).2⟩
 exact wl_v (o_builtin (xs := [x, y]) (vs := [.slice A s.length c, .int .i64 (m : Int)]) (by simp [Fr.evs, hx, hy]) (by simp [builtin, hrun]) (by simp)) (h A' c' w' hO ⟨h3, RowH.ty hown⟩ ((Below.refl lo w).grown h3 hB (fun b hb => (hlt b hb).1))) ht hg hd
  (hq.imp id fun e => e.elim (fun e => grown_wide (e ▸ h3) _) (fun e => e ▸ h3))
theorem wl_slBB (T : U8 P t) {p : List UInt8} {z : Operand} {len cap : Nat} {kl kh : IntKind} {L H : Int} (lo hi : Nat) (hx : fr.ev x = some (.slice A len cap)) (hy : fr.ev y = some (.int kl L)) (hz : fr.ev z = some (.int kh H)) (hr : Rd w A p) (hlen : len = p.length) (hl : L = (lo : Int)) (hh : H = (hi : Int)) (h1 : lo ≤ hi) (h2 : hi ≤ p.length) (h3 : p.length ≤ cap)
  (hk : ∀ A' c', Rd w A' ((p.drop lo).take (hi - lo)) → hi - lo ≤ c' → c' ≤ cap → WL P fn F N ks ops tg.tail l ((d, .slice A' (hi - lo) c') :: fr) w) (hg : onG ops fr gd = true := by rfl) (hd : Nat.blt d N = true := by rfl) :
  WL P fn F N ks ops tg (⟨some d, .slice t x (some y) (some z) none, ty, pos, aft, gd⟩ :: l) fr w := by
 obtain ⟨i, hi', hz', hs, hb⟩ := info_parts T.hi
 refine wl_p (fun _ => o_slice (sz := 1) (lo := lo) (hi := hi) T.ht (fun w => by simp [sizeOf, typeInfo, hi', hs]) hx hy hz hl hh h1 (by omega)) (hk _ _ ?_ (by omega) (by omega)) hg hd
 have h4 := (hr.drop (k := lo) (cap := cap) (by omega) h3)
 have h5 : cutA A cap 1 lo = if cap = lo then A else A.map (·.add lo) := by unfold cutA; rw [Nat.mul_one]
 rw [h5]
 exact rd_upto h4 _
end
end Go.Proofs.YtahkeoegbjopfaaGreat
namespace Go.Proofs.YtahkeoegbjopfaaGreat
set_option maxRecDepth 100000
open Go.RowKit
theorem C_refrot {x : UInt64} {k : Int} (w : World) (h1 : 0 < k) (h2 : k < 64) : CallsR Tryz.prog 185 [.int .u64 (x.toNat : Int), .int .i64 k] w fun v w' => v = .int .u64 ((rotU x (-k)).toNat : Int) ∧ Below w.heap.size w w' := by
 obtain ⟨s, rfl⟩ : ∃ s : Nat, k = s := ⟨k.toNat, by omega⟩
 refine callsR Tryz.func185 rfl rfl (by kernel_rfl) rfl ?_
 refine zs (za rfl (wl_nil (zs (zm rfl (zm rfl ?_)))))
 refine zp (o_convu64 (src := 3) (dst := 102) Tryz.underlying3 Tryz.underlying102 rfl (by omega) (by omega)) ?_
 refine zp (o_shrU rfl rfl (by omega) (by omega)) ?_
 refine zm rfl (zm rfl ?_)
 refine zp (o_sub rfl rfl (by omega) (by omega)) ?_
 refine zp (o_convu64 (src := 3) (dst := 102) Tryz.underlying3 Tryz.underlying102 rfl (by omega) (by omega)) ?_
 refine zp (o_shlU rfl rfl (by omega) (by omega)) ?_
 refine zp (o_orU rfl rfl) ?_
 refine za rfl (wl_nil ?_)
 refine ret1 rfl rfl ?_
 exact ⟨by unfold rotU; rw [show (s : Int).toNat = s from rfl, show (64 - (s : Int)).toNat = 64 - s by omega, show (-(s : Int) % 64).toNat = 64 - s by omega, show 64 - (64 - s) = s by omega, UInt64.or_comm], Below.refl _ _⟩
set_option maxRecDepth 100000 in
theorem C_refK {r : List UInt64} (w : World) (hr : Kl = r) : CallsR Tryz.prog 184 [] w fun v w' => v = .agg (vU r).toArray ∧ Below w.heap.size w w' := by
 subst hr
 refine callsR Tryz.func184 rfl rfl (by kernel_rfl) rfl ?_
 have hw := Below.refl w.heap.size w
 refine zs ?_
 refine wl_allocU Tryz.underlying197 Tryz.zeroValue197 (by rfl) ?_
 rintro g0 w0 f0 b0 i0 i0_1
 have s0 := b0.size
 replace hw := hw.trans (b0.mono hw.size)
 refine wl_nil (zs ?_)
 refine zp (o_buildU (n := 80) (vs := vU Kl) Kl Tryz.underlying197 rfl rfl (by kernel_rfl) rfl rfl (by kernel_rfl) (fun _ => by kernel_rfl)) ?_
 refine wl_stUa Tryz.sizeOf197 rfl f0 rfl (by rfl) (by rfl) ?_
 rintro w_1 f g e
 have s := g.size
 replace hw := hw.trans (below_of_grownBy g.g hw.size (by omega))
 clear f0
 refine wl_nil ?_
 refine ret_cell rfl rfl Tryz.isAgg197 Tryz.sizeOf197 f rfl ?_
 exact ⟨rfl, hw⟩
theorem C_refStart (w : World) : CallsR Tryz.prog 137 [] w fun v w' => v = .agg (vU Sl).toArray ∧ Below w.heap.size w w' := by
 refine callsR Tryz.func137 rfl rfl (by kernel_rfl) rfl ?_
 have hw := Below.refl w.heap.size w
 refine zs ?_
 refine wl_allocU Tryz.underlying166 Tryz.zeroValue166 (by rfl) ?_
 rintro g0 w0 f0 b0 i0 i0_1
 have s0 := b0.size
 replace hw := hw.trans (b0.mono hw.size)
 refine wl_nil (zs ?_)
 refine zp (o_buildga [_, _, _, _, _, _, _, _] Tryz.underlying166 Tryz.sizeOf43 Tryz.zeroValue166 (by rfl) (by rfl) rfl (by rfl) (by rfl) (fun _ => by kernel_rfl)) ?_
 refine wl_storega Tryz.sizeOf166 rfl rfl (by rfl) (by decide) f0 (by rfl) ?_
 rintro w_1 f g e
 have s := g.size
 replace hw := hw.trans (below_of_grownBy g.g hw.size (by omega))
 clear f0
 refine wl_nil ?_
 refine ret_cell rfl rfl Tryz.isAgg166 Tryz.sizeOf166 f rfl ?_
 exact ⟨by kernel_rfl, hw⟩
section
variable {fn : Func} {F : Ending → World → Prop} {N : Nat} {ks : List K} {ops : Array Oper} {tg : Tags} {l : List Oper} {fr : Fr} {w : World} {ty : TypeId} {pos : String} {aft : Array Edge} {gd : Option (Nat × Bool)} {d n c lo hi : Nat} {x y : Operand} {A : Option Addr} {s : List UInt8}
theorem wl_appZx (m : Nat) {M : Int} (hx : fr.ev x = some (.slice A n c)) (hown : OwnH w lo hi A c s) (hn : n = s.length) (hy : fr.ev y = some (.int .i64 M)) (hM : M = (m : Int)) (hm : 0 < m) (hlen : s.length + m ≤ 4000000000) (hB : lo ≤ w.heap.size)
  (h : ∀ A' c' w', OwnH w' lo w'.heap.size A' c' (s ++ List.replicate m 0) → Grew w w' 5 (blk A) → Below lo w w' → WL Tryz.prog fn F N ks ops tg.tail l ((d, .slice A' (s ++ List.replicate m 0).length c') :: fr) w')
  (ht : tg.loud = true := by rfl) (hg : onG ops fr gd = true := by rfl) (hd : Nat.blt d N = true := by rfl) (hq : tg.calm = false ∨ blk A = none ∨ blk A = tg.row := by exact .inl rfl) :
  WL Tryz.prog fn F N ks ops tg (⟨some d, .call { callee := .builtin .append, args := #[x, y], argTypes := #[39, 3] }, ty, pos, aft, gd⟩ :: l) fr w :=
 wl_appZs Tryz.u8 Tryz.underlying3 Tryz.underlying9 m hx hown hn hy hM hm hlen hB h ht hg hd hq
end
set_option maxHeartbeats 800000 in
theorem C_refPad {A : Option Addr} {b r : By} {n c : Nat} (w : World) (hp : Rd w A b) (hr : padU b = r) (hn : n = b.length) (hbl : b.length ≤ 200000) :
  CallsR Tryz.prog 169 [.slice A n c] w fun v w' => ∃ A' c', v = .slice A' r.length c' ∧ OwnH w' w.heap.size w'.heap.size A' c' r ∧ Below w.heap.size w w' := by
 subst hn
 obtain ⟨zn, hz⟩ : ∃ zn, zeros b.length = zn := ⟨_, rfl⟩
 have hzd := hz
 unfold zeros at hzd
 refine callsR Tryz.func169 rfl rfl (by kernel_rfl) rfl ?_
 have hw := Below.refl w.heap.size w
 refine zs (za rfl (wl_nil (zs ?_)))
 refine wl_litB [] Tryz.u8 Tryz.sizeOf5 Tryz.zeroValue5 (by rfl) rfl rfl (by rfl) (by rfl) (by rfl) ?_
 rintro A6 w6 f6 b6
 have qf6 := f6.cap
 have s6 := b6.size
 replace hw := hw.trans (b6.mono hw.size)
 refine zm rfl ?_
 refine wl_appB Tryz.u8 rfl f6 (by rfl) rfl (hp.u hw) rfl (by omega) hw.size ?_
 rintro A8 c8 w8 f8 g8 b8 i8
 have qf8 := f8.cap
 have s8 := g8.size
 replace hw := hw.trans (b8.mono (by omega))
 clear f6
 refine wl_litB [128] Tryz.u8 Tryz.sizeOf5 Tryz.zeroValue5 (by rfl) rfl rfl (by rfl) (by rfl) (by rfl) ?_
 rintro A9 w9 f9 b9
 have qf9 := f9.cap
 have s9 := b9.size
 replace hw := hw.trans (b9.mono hw.size)
 replace f8 := f8.u b9
 refine wl_appB Tryz.u8 rfl f8 rfl rfl f9.to_Rd (by rfl) (by simp; omega) hw.size ?_
 rintro A10 c10 w10 f10 g10 b10 i10
 have qf10 := f10.cap
 have s10 := g10.size
 replace hw := hw.trans (b10.mono (by omega))
 replace f9 := f9.k g10.g (f8.ap (by omega))
 clear f8
 refine za rfl (wl_nil (rk_seq (rk_block ?_)))
 rw [List.nil_append] at f10 ⊢
 refine rk_joinf (fun fb fr w4 => ∃ A' c' bs, fr = [(3, .slice A' bs.length c')] ++ fb.drop 1 ∧ bs = b ++ [128] ++ List.replicate zn 0 ∧ OwnH w4 w.heap.size w4.heap.size A' c' bs ∧ Below w.heap.size w w4) ?_ (fun ks hj => ?_)
 rotate_left
 ·refine rk_loopf (fun fb m fr w4 => ∃ (i : Nat) (A' : Option Addr) (bs : By) (c' : Nat), fr = [(3, .slice A' bs.length c')] ++ fb.drop 1 ∧ i ≤ zn ∧ m = zn - i ∧ bs = b ++ [128] ++ List.replicate i 0 ∧ OwnH w4 w.heap.size w4.heap.size A' c' bs ∧ Below w.heap.size w w4) (n := zn) (Fr.le_of (by kernel_rfl) (by kernel_rfl) (by repeat' constructor)) ⟨0, A10, _, _, rfl, by omega, rfl, by rw [List.replicate_zero, List.append_nil], f10.base (by omega) (Nat.le_refl _), hw⟩ ?_
  clear hw f10
  rintro m fr w4 ⟨i, A', bs, c', rfl, hi, rfl, hbs, fo, hw⟩
  have shw4 := hw.size
  have hbl4 : bs.length = b.length + 1 + i := by rw [hbs, List.length_append, List.length_append, List.length_replicate, List.length_singleton]
  first | refine zf ?_ | refine zg ?_
  refine rk_seq (zs (zm rfl ?_))
  refine zp (o_len (t := 39) Tryz.underlying39 rfl) ?_
  refine zp (o_rem rfl rfl (by omega) (by omega)) ?_
  refine zp (o_ne rfl rfl) ?_
  refine wl_nil ?_
  refine rk_if rfl (fun h14 => ?_) (fun h14 => ?_)
  ·refine rk_skip ?_
   refine rk_block (rk_region (zm rfl ?_))
   refine wl_litB [0] Tryz.u8 Tryz.sizeOf5 Tryz.zeroValue5 (by rfl) rfl rfl (by rfl) (by rfl) (by rfl) ?_
   rintro A16 w16 f16 b16
   have qf16 := f16.cap
   have s16 := b16.size
   replace hw := hw.trans (b16.mono hw.size)
   replace fo := fo.u b16
   refine wl_appB Tryz.u8 rfl fo rfl rfl f16.to_Rd (by rfl) (by omega) hw.size ?_
   rintro A17 c17 w17 f17 g17 b17 i17
   have qf17 := f17.cap
   have s17 := g17.size
   replace hw := hw.trans (b17.mono (by omega))
   replace f16 := f16.k g17.g (fo.ap (by omega))
   clear fo
   refine za rfl (wl_nil ?_)
   refine rk_blk ?_
   exact rk_againf (Fr.le_of (by kernel_rfl) (by kernel_rfl) (by repeat' constructor)) ⟨i + 1, _, _, _, rfl, by omega, rfl, by rw [hbs, List.replicate_succ', List.append_assoc (b ++ [128])], f17, hw⟩ (by omega)
  ·refine rk_exit rfl ?_
   obtain rfl : i = zn := by omega
   exact rk_tof hj (Fr.le_of (by kernel_rfl) (by kernel_rfl) (by repeat' constructor)) ⟨A', c', bs, rfl, hbs, fo, hw⟩
 clear hw f10
 rintro fr w4 ⟨A', c', bs, rfl, hbs, fo, hw⟩
 have shw4 := hw.size
 have hbl4 : bs.length = b.length + 1 + zn := by rw [hbs, List.length_append, List.length_append, List.length_replicate, List.length_singleton]
 obtain ⟨x, hx⟩ : ∃ x, UInt64.ofNat (b.length * 8) = x := ⟨_, rfl⟩
 have hxn : x.toNat = b.length * 8 := by rw [← hx, UInt64.toNat_ofNat_of_lt' (by show b.length * 8 < 18446744073709551616; omega)]
 first | refine zf ?_ | refine zg ?_
 refine zs (zm rfl ?_)
 refine wl_appZx (8) rfl fo rfl rfl (by omega) (by omega) (by omega) hw.size ?_
 rintro A19 c19 w19 f19 g19 b19
 have qf19 := f19.cap
 have s19 := g19.size
 replace hw := hw.trans (b19.mono (by omega))
 clear fo
 refine za rfl (wl_nil (zs (zm rfl ?_)))
 refine zp (o_len (t := 39) Tryz.underlying39 rfl) ?_
 refine zp (o_convu64 (src := 3) (dst := 43) Tryz.underlying3 Tryz.underlying43 rfl (by omega) (by omega)) ?_
 refine zp (o_mulq rfl rfl (by omega) (by omega)) ?_
 refine za rfl (wl_nil (rk_seq (zs (za rfl (wl_nil (rk_block ?_))))))
 rw [show (b.length : Int) * 8 = (x.toNat : Int) by omega]
 obtain ⟨b2, hb2⟩ : ∃ b2, bs ++ List.replicate 8 0 = b2 := ⟨_, rfl⟩
 rw [hb2] at f19 ⊢
 have hb2l : b2.length = bs.length + 8 := by rw [← hb2, List.length_append, List.length_replicate]
 have hrr : r = b2 ++ be8 x := by
  rw [← hr, ← hb2, hbs, ← hz, ← hx]; rfl
 have hbn : (be8 x).length = 8 := be8_len x
 refine rk_joinf (fun fb fr w5 => ∃ A' c', fr = [(3, .slice A' r.length c')] ++ fb.drop 6 ∧ OwnH w5 w.heap.size w5.heap.size A' c' r ∧ Below w.heap.size w w5) ?_ (fun ks hj => ?_)
 rotate_left
 ·refine rk_loopf (fun fb m fr w6 => ∃ (k : Nat) (v : Int) (A' : Option Addr) (bu : By) (c' : Nat), fr = [(5, .int .i64 v), (4, .int .u64 (x.toNat : Int)), (3, .slice A' bu.length c')] ++ fb.drop 6 ∧ v = 7 - (k : Int) ∧ k ≤ 8 ∧ m = 8 - k ∧ bu = b2 ++ (be8 x).take k ∧ OwnH w6 w.heap.size w6.heap.size A' c' bu ∧ Below w.heap.size w w6) (n := 8) (Fr.le_of (by kernel_rfl) (by kernel_rfl) (by repeat' constructor)) ⟨0, _, A19, _, c19, rfl, by omega, by omega, rfl, by rw [List.take_zero, List.append_nil], f19.base (by omega) (Nat.le_refl _), hw⟩ ?_
  clear hw f19
  rintro m fr w6 ⟨k, v, A', bu, c', rfl, rfl, hk, rfl, hbu, fo, hw⟩
  have shw6 := hw.size
  have hbul : bu.length = b2.length + k := by rw [hbu, List.length_append, List.length_take]; omega
  first | refine zf ?_ | refine zg ?_
  refine rk_seq (zs (zm rfl ?_))
  refine zp (o_ge rfl rfl) ?_
  refine wl_nil ?_
  refine rk_if rfl (fun h25 => ?_) (fun h25 => ?_)
  ·refine rk_skip ?_
   refine rk_seq (rk_block (rk_region (zm rfl (zm rfl (zm rfl ?_)))))
   refine zp (o_mul rfl rfl (by omega) (by omega)) ?_
   refine zp (o_convu64 (src := 3) (dst := 102) Tryz.underlying3 Tryz.underlying102 rfl (by omega) (by omega)) ?_
   refine zp (o_shrU rfl rfl (by omega) (by omega)) ?_
   rw [show (8 * (7 - (k : Int))).toNat = 56 - 8 * k by omega]
   refine zp (o_convU8 (src := 43) (dst := 5) Tryz.underlying43 Tryz.underlying5 rfl) ?_
   refine wl_litB [(shrU x (56 - 8 * k)).toUInt8] Tryz.u8 Tryz.sizeOf5 Tryz.zeroValue5 (by rfl) rfl rfl (by rfl) (by rfl) (by rfl) ?_
   rintro A35 w35 f35 b35
   have qf35 := f35.cap
   have s35 := b35.size
   replace hw := hw.trans (b35.mono hw.size)
   replace fo := fo.u b35
   refine wl_appB Tryz.u8 rfl fo rfl rfl f35.to_Rd (by rfl) (by omega) hw.size ?_
   rintro A36 c36 w36 f36 g36 b36 i36
   have qf36 := f36.cap
   have s36 := g36.size
   replace hw := hw.trans (b36.mono (by omega))
   replace f35 := f35.k g36.g (fo.ap (by omega))
   clear fo
   refine za rfl (wl_nil ?_)
   refine rk_blk ?_
   refine rk_region (zm rfl ?_)
   refine zp (o_sub rfl rfl (by omega) (by omega)) ?_
   refine za rfl (wl_nil ?_)
   exact rk_againf (Fr.le_of (by kernel_rfl) (by kernel_rfl) (by repeat' constructor)) ⟨k + 1, 7 - (k : Int) - 1, _, _, _, rfl, by omega, by omega, rfl, by rw [hbu, List.take_succ_eq_append_getElem (by omega), be8_get, List.append_assoc], f36, hw⟩ (by omega)
  ·refine rk_exit rfl ?_
   obtain rfl : k = 8 := by omega
   rw [List.take_of_length_le (by omega), ← hrr] at hbu
   subst hbu
   exact rk_tof hj (Fr.le_of (by kernel_rfl) (by kernel_rfl) (by repeat' constructor)) ⟨A', c', rfl, fo, hw⟩
 clear hw f19
 rintro fr w5 ⟨A', c', rfl, fo, hw⟩
 have shw5 := hw.size
 first | refine zf ?_ | refine zg ?_
 refine zs (zm rfl (za rfl (wl_nil ?_)))
 refine ret1 rfl rfl ?_
 exact ⟨A', c', rfl, fo, hw⟩
end Go.Proofs.YtahkeoegbjopfaaGreat
