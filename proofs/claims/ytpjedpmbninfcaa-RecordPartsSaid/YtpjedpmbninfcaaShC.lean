/-
  Walks of package sha: what a piece does to a state, the bytes of a state.
-/
import Derived.Test.YtpjedpmbninfcaaShB
namespace Go.Proofs.Ytpjedpmbninfcaa
open Go.RowKit
structure St where
  a : UInt64
  b : UInt64
  c : UInt64
  d : UInt64
  e : UInt64
  f : UInt64
  g : UInt64
  h : UInt64
/-- One round. -/
def rnd (k w : UInt64) (s : St) : St :=
  let t1 := s.h + (rotU s.e (-14) ^^^ rotU s.e (-18) ^^^ rotU s.e (-41)) + (s.e &&& s.f ^^^ ~~~s.e &&& s.g) + k + w
  let t2 := (rotU s.a (-28) ^^^ rotU s.a (-34) ^^^ rotU s.a (-39)) + (s.a &&& s.b ^^^ s.a &&& s.c ^^^ s.b &&& s.c)
  ⟨t1 + t2, s.a, s.b, s.c, s.d + t1, s.e, s.f, s.g⟩
def rnds (ks ws : List UInt64) : Nat → St → St
  | 0, s => s
  | n + 1, s => rnd (ks.getD n 0) (ws.getD n 0) (rnds ks ws n s)
def St.list (s : St) : List UInt64 := [s.a, s.b, s.c, s.d, s.e, s.f, s.g, s.h]
def stOf (l : List UInt64) : St := ⟨l.getD 0 0, l.getD 1 0, l.getD 2 0, l.getD 3 0, l.getD 4 0, l.getD 5 0, l.getD 6 0, l.getD 7 0⟩
/-- Behind a piece. -/
def pieceU (l : List UInt64) (p : List UInt8) : List UInt64 := List.zipWith (· + ·) l (rnds Kl (wx p 64) 80 (stOf l)).list
theorem pieceU_len {l : List UInt64} (p : List UInt8) (hl : l.length = 8) : (pieceU l p).length = 8 := by
  simp [pieceU, hl, St.list]
theorem stOf_eq {l : List UInt64} (hl : l.length = 8) : stOf l = ⟨l[0], l[1], l[2], l[3], l[4], l[5], l[6], l[7]⟩ := by
  match l, hl with
  | [a, b, c, d, e, f, g, h], _ => rfl
theorem rnds_next {ks ws : List UInt64} {n : Nat} {s0 s : St} (h : s = rnds ks ws n s0) (h1 : n < ks.length) (h2 : n < ws.length) : rnd ks[n] ws[n] s = rnds ks ws (n + 1) s0 := by
  show _ = rnd (ks.getD n 0) (ws.getD n 0) (rnds ks ws n s0)
  rw [h, List.getD_eq_getElem?_getD, List.getElem?_eq_getElem h1, List.getD_eq_getElem?_getD, List.getElem?_eq_getElem h2]; rfl
theorem zip_next {l x q : List UInt64} {i : Nat} (hq : q = (List.zipWith (· + ·) l x).take i ++ l.drop i) (hx : x.length = l.length) (h1 : i < q.length) (h2 : i < x.length) : q.set i (q[i] + x[i]) = (List.zipWith (· + ·) l x).take (i + 1) ++ l.drop (i + 1) := by
  have hz : (List.zipWith (· + ·) l x).length = l.length := by rw [List.length_zipWith]; omega
  have hil : i < l.length := by omega
  have ht : ((List.zipWith (· + ·) l x).take i).length = i := by rw [List.length_take]; omega
  have hqi : q[i] = l[i] := by
    subst hq
    rw [List.getElem_append_right (by omega)]
    simp only [ht, Nat.sub_self, List.getElem_drop, Nat.add_zero]
  rw [hqi, hq, List.set_append_right _ _ (by omega), ht, Nat.sub_self, List.drop_eq_getElem_cons hil, List.set_cons_zero, List.take_succ_eq_append_getElem (by omega), List.getElem_zipWith, List.append_assoc]
  rfl
set_option maxHeartbeats 1000000 in
theorem C_Piece {l : List UInt64} {p : List UInt8} {r : List UInt64} (w : World) (hr : pieceU l p = r) (hl : l.length = 8) (hp : p.length = 128) :
    CallsR Try.prog 45 [.agg (vU l).toArray, .agg (B8 p).toArray] w fun v w' => v = .agg (vU r).toArray ∧ Below w.heap.size w w' := by
  have hr8 : r.length = 8 := by rw [← hr]; exact pieceU_len p hl
  obtain ⟨W, hW⟩ : ∃ W, wx p 64 = W := ⟨_, rfl⟩
  have hW8 : W.length = 80 := by rw [← hW, wx_len]
  obtain ⟨kl, hkl⟩ : ∃ kl, Kl = kl := ⟨_, rfl⟩
  have hK8 : kl.length = 80 := by rw [← hkl]; rfl
  refine callsR Try.func45 rfl rfl (by kernel_rfl) rfl ?_
  have hw := Below.refl w.heap.size w
  obtain ⟨R, hR⟩ : ∃ R, rnds kl W 80 ⟨l[0], l[1], l[2], l[3], l[4], l[5], l[6], l[7]⟩ = R := ⟨_, rfl⟩
  have hrr : r = List.zipWith (· + ·) l R.list := by
    rw [← hr, ← hR, ← hkl, ← hW, ← stOf_eq hl]; rfl
  have hRl : R.list.length = l.length := by rw [hl]; rfl
  refine rk_seq ?_
  refine rk_region ?_
  refine wl_boxg _ rfl (by rfl) ?_
  rintro g2 w2 f2 b2 i2 i2_1
  have s2 := b2.size
  replace hw := hw.trans (b2.mono hw.size)
  refine wl_boxg _ rfl (by rfl) ?_
  rintro g3 w3 f3 b3 i3 i3_1
  have s3 := b3.size
  replace hw := hw.trans (b3.mono hw.size)
  replace f2 := f2.u b3
  refine wl_allocU Try.underlying66 Try.zeroValue66 (by rfl) ?_
  rintro g4 w4 f4 b4 i4 i4_1
  have s4 := b4.size
  replace hw := hw.trans (b4.mono hw.size)
  replace f2 := f2.u b4
  replace f3 := f3.u b4
  refine wl_nil ?_
  refine rk_seq ?_
  refine rk_region ?_
  refine wl_r (o_ldBa Try.isAgg85 Try.sizeOf85 rfl f3 hp) ?_
  refine wl_call rfl (C_schedule _ hW hp) ?_
  rintro v23 w23 ⟨rfl, b23⟩
  have s23 := b23.size
  replace hw := hw.trans (b23.mono hw.size)
  replace f3 := f3.u b23
  replace f2 := f2.u b23
  replace f4 := f4.u b23
  refine wl_call rfl (C_K _) ?_
  rintro v24 w24 ⟨rfl, b24⟩
  have s24 := b24.size
  replace hw := hw.trans (b24.mono hw.size)
  replace f4 := f4.u b24
  replace f2 := f2.u b24
  replace f3 := f3.u b24
  refine wl_alloc80 ?_
  rintro g5 w5 f5 b5 i5 i5_1
  have s5 := b5.size
  replace hw := hw.trans (b5.mono hw.size)
  replace f3 := f3.u b5
  replace f2 := f2.u b5
  replace f4 := f4.u b5
  refine wl_alloc80 ?_
  rintro g6 w6 f6 b6 i6 i6_1
  have s6 := b6.size
  replace hw := hw.trans (b6.mono hw.size)
  replace f4 := f4.u b6
  replace f2 := f2.u b6
  replace f3 := f3.u b6
  replace f5 := f5.u b6
  refine wl_stUa Try.sizeOf97 rfl f5 rfl hW8 (by rfl) ?_
  rintro w_1 f g e
  have s := g.size
  replace hw := hw.trans (below_of_grownBy g.g hw.size (by omega))
  replace f3 := f3.k g.g (ap_some (by omega))
  replace f2 := f2.k g.g (ap_some (by omega))
  replace f4 := f4.k g.g (ap_some (by omega))
  replace f6 := f6.k g.g (ap_some (by omega))
  clear f5
  refine wl_stUa Try.sizeOf97 rfl f6 rfl (by rfl) (by rfl) ?_
  rintro w_2 f_1 g_1 e_1
  have s_1 := g_1.size
  replace hw := hw.trans (below_of_grownBy g_1.g hw.size (by omega))
  replace f4 := f4.k g_1.g (ap_some (by omega))
  replace f2 := f2.k g_1.g (ap_some (by omega))
  replace f3 := f3.k g_1.g (ap_some (by omega))
  replace f := f.k g_1.g (ap_some (by omega))
  clear f6
  refine wl_nil ?_
  refine rk_seq ?_
  refine rk_draw (id := 2) (none) [0, 1, 0, 4, 0, 16, 0, 64, 3, 271, 831, 2047] [0, 1, 0, 4, 0, 16, 0, 64, 3, 271, 831, 2047] 0 0 [(.p, 0), (.r, 1), (.p, 2), (.r, 3), (.p, 4), (.r, 5), (.p, 6), (.r, 7), (.p, 8), (.p, 9), (.p, 10), (.p, 11)] (by kernel_rfl) (by kernel_rfl) (by kernel_rfl) (by kernel_rfl) (by kernel_rfl) ?_
  replace hw := hw.drew
  replace f := f.d
  replace f3 := f3.d
  replace f2 := f2.d
  replace f4 := f4.d
  replace f_1 := f_1.d
  refine wl_p (fun _ => (o_iaddrP (0) Try.underlying66 Try.sizeOf25 rfl rfl (by omega) (by omega))) ?_
  refine wl_r (o_ldU Try.isAgg25 rfl f2 (by omega)) ?_
  refine wl_p (fun _ => (o_iaddrP (1) Try.underlying66 Try.sizeOf25 rfl rfl (by omega) (by omega))) ?_
  refine wl_r (o_ldU Try.isAgg25 rfl f2 (by omega)) ?_
  refine wl_p (fun _ => (o_iaddrP (2) Try.underlying66 Try.sizeOf25 rfl rfl (by omega) (by omega))) ?_
  refine wl_r (o_ldU Try.isAgg25 rfl f2 (by omega)) ?_
  refine wl_p (fun _ => (o_iaddrP (3) Try.underlying66 Try.sizeOf25 rfl rfl (by omega) (by omega))) ?_
  refine wl_r (o_ldU Try.isAgg25 rfl f2 (by omega)) ?_
  refine wl_p (fun _ => o_assign rfl) ?_
  refine wl_p (fun _ => o_assign rfl) ?_
  refine wl_p (fun _ => o_assign rfl) ?_
  refine wl_p (fun _ => o_assign rfl) ?_
  refine wl_nild ?_
  refine rk_seq ?_
  refine rk_draw (id := 3) (none) [0, 1, 0, 4, 0, 16, 0, 64, 3, 271, 831, 2047] [0, 1, 0, 4, 0, 16, 0, 64, 3, 271, 831, 2047] 0 0 [(.p, 0), (.r, 1), (.p, 2), (.r, 3), (.p, 4), (.r, 5), (.p, 6), (.r, 7), (.p, 8), (.p, 9), (.p, 10), (.p, 11)] (by kernel_rfl) (by kernel_rfl) (by kernel_rfl) (by kernel_rfl) (by kernel_rfl) ?_
  replace hw := hw.drew
  replace f_1 := f_1.d
  replace f4 := f4.d
  replace f2 := f2.d
  replace f3 := f3.d
  replace f := f.d
  refine wl_p (fun _ => (o_iaddrP (4) Try.underlying66 Try.sizeOf25 rfl rfl (by omega) (by omega))) ?_
  refine wl_r (o_ldU Try.isAgg25 rfl f2 (by omega)) ?_
  refine wl_p (fun _ => (o_iaddrP (5) Try.underlying66 Try.sizeOf25 rfl rfl (by omega) (by omega))) ?_
  refine wl_r (o_ldU Try.isAgg25 rfl f2 (by omega)) ?_
  refine wl_p (fun _ => (o_iaddrP (6) Try.underlying66 Try.sizeOf25 rfl rfl (by omega) (by omega))) ?_
  refine wl_r (o_ldU Try.isAgg25 rfl f2 (by omega)) ?_
  refine wl_p (fun _ => (o_iaddrP (7) Try.underlying66 Try.sizeOf25 rfl rfl (by omega) (by omega))) ?_
  refine wl_r (o_ldU Try.isAgg25 rfl f2 (by omega)) ?_
  refine wl_p (fun _ => o_assign rfl) ?_
  refine wl_p (fun _ => o_assign rfl) ?_
  refine wl_p (fun _ => o_assign rfl) ?_
  refine wl_p (fun _ => o_assign rfl) ?_
  refine wl_nild ?_
  refine rk_seq ?_
  refine rk_seq ?_
  refine rk_region ?_
  refine wl_p (fun _ => o_move rfl) ?_
  refine wl_nil ?_
  refine rk_block ?_
  rw [hkl] at f_1
  refine rk_joinf (fun fb fr w5 => fr = [(7, .int .u64 (R.a.toNat : Int)), (8, .int .u64 (R.b.toNat : Int)), (9, .int .u64 (R.c.toNat : Int)), (10, .int .u64 (R.d.toNat : Int)), (11, .int .u64 (R.e.toNat : Int)), (12, .int .u64 (R.f.toNat : Int)), (13, .int .u64 (R.g.toNat : Int)), (14, .int .u64 (R.h.toNat : Int))] ++ fb.drop 22 ∧ Below w_2.drew.drew.heap.size w_2.drew.drew w5) ?_ (fun ks hj => ?_)
  rotate_left
  · refine rk_loopf (fun fb m fr w5 => ∃ (i : Nat) (v : Int) (s : St), fr = [(41, .int .i64 v), (7, .int .u64 (s.a.toNat : Int)), (8, .int .u64 (s.b.toNat : Int)), (9, .int .u64 (s.c.toNat : Int)), (10, .int .u64 (s.d.toNat : Int)), (11, .int .u64 (s.e.toNat : Int)), (12, .int .u64 (s.f.toNat : Int)), (13, .int .u64 (s.g.toNat : Int)), (14, .int .u64 (s.h.toNat : Int))] ++ fb ∧ v = i ∧ i ≤ 80 ∧ m = 80 - i ∧ s = rnds kl W i ⟨l[0], l[1], l[2], l[3], l[4], l[5], l[6], l[7]⟩ ∧ Below w_2.drew.drew.heap.size w_2.drew.drew w5) (n := 80) (Fr.le_of (by kernel_rfl) (by kernel_rfl) (by repeat' constructor)) ⟨0, _, ⟨l[0], l[1], l[2], l[3], l[4], l[5], l[6], l[7]⟩, rfl, rfl, by omega, rfl, rfl, Below.refl _ _⟩ ?_
    rintro m fr w5 ⟨i, v, s, rfl, rfl, hi, rfl, hs, hw1⟩
    first | refine rk_frame (by simp only [List.cons_append, List.nil_append, List.drop_succ_cons, List.drop_zero]; rfl) ?_ | refine wl_frame (by simp only [List.cons_append, List.nil_append, List.drop_succ_cons, List.drop_zero]; rfl) ?_
    have shw1 := hw1.size
    simp only [drew_size] at shw1
    replace hw := hw.trans (hw1.mono hw.size)
    replace f := f.u hw1
    replace f3 := f3.u hw1
    replace f2 := f2.u hw1
    replace f4 := f4.u hw1
    replace f_1 := f_1.u hw1
    refine rk_seq ?_
    refine rk_region ?_
    refine wl_p (fun _ => o_lt rfl rfl) ?_
    refine wl_nil ?_
    refine rk_seq ?_
    refine rk_if rfl (fun h42 => ?_) (fun h42 => ?_)
    · refine rk_skip ?_
      refine rk_seq ?_
      refine rk_block ?_
      refine rk_seq ?_
      refine rk_region ?_
      refine wl_p (fun _ => o_move rfl) ?_
      refine wl_p (fun _ => o_assign rfl) ?_
      refine wl_nil ?_
      refine rk_seq ?_
      refine rk_region ?_
      refine wl_p (fun _ => o_move rfl) ?_
      refine wl_call rfl (C_rot _ (by omega) (by omega)) ?_
      rintro v45 w45 ⟨rfl, rfl⟩
      refine wl_p (fun _ => o_move rfl) ?_
      refine wl_call rfl (C_rot _ (by omega) (by omega)) ?_
      rintro v47 w47 ⟨rfl, rfl⟩
      refine wl_p (fun _ => o_xorU rfl rfl) ?_
      refine wl_p (fun _ => o_move rfl) ?_
      refine wl_call rfl (C_rot _ (by omega) (by omega)) ?_
      rintro v50 w50 ⟨rfl, rfl⟩
      refine wl_p (fun _ => o_xorU rfl rfl) ?_
      refine wl_p (fun _ => o_assign rfl) ?_
      refine wl_nil ?_
      refine rk_seq ?_
      refine rk_draw (id := 8) (none) [0, 0, 3, 0, 0, 24, 0, 64, 0, 384, 544, 1028, 0, 4096, 8192, 18432, 0, 65536, 131072, 294912, 1048575] [0, 0, 3, 0, 0, 24, 0, 64, 0, 448, 1016, 2047, 0, 4096, 12288, 32767, 0, 65536, 196608, 524287, 1048575] 0 0 [(.p, 0), (.p, 1), (.p, 2), (.p, 3), (.p, 4), (.p, 5), (.p, 6), (.p, 7), (.p, 8), (.p, 9), (.p, 10), (.p, 11), (.p, 12), (.p, 13), (.r, 14), (.p, 15), (.p, 16), (.p, 17), (.r, 18), (.p, 19), (.p, 20)] (by kernel_rfl) (by kernel_rfl) (by kernel_rfl) (by kernel_rfl) (by kernel_rfl) ?_
      replace hw1 := hw1.drew
      replace hw := hw.drew
      replace f_1 := f_1.d
      replace f4 := f4.d
      replace f2 := f2.d
      replace f3 := f3.d
      replace f := f.d
      refine wl_p (fun _ => o_move rfl) ?_
      refine wl_p (fun _ => o_move rfl) ?_
      refine wl_p (fun _ => o_addU rfl rfl) ?_
      refine wl_p (fun _ => o_move rfl) ?_
      refine wl_p (fun _ => o_move rfl) ?_
      refine wl_p (fun _ => o_andU rfl rfl) ?_
      refine wl_p (fun _ => o_move rfl) ?_
      refine wl_p (fun _ => o_notU rfl) ?_
      refine wl_p (fun _ => o_move rfl) ?_
      refine wl_p (fun _ => o_andU rfl rfl) ?_
      refine wl_p (fun _ => o_xorU rfl rfl) ?_
      refine wl_p (fun _ => o_addU rfl rfl) ?_
      refine wl_p (fun _ => o_move rfl) ?_
      refine wl_p (fun _ => (o_iaddrP (i) Try.underlying97 Try.sizeOf25 rfl rfl rfl (by omega))) ?_
      refine wl_r (o_ldU Try.isAgg25 rfl f_1 (by omega)) ?_
      refine wl_p (fun _ => o_addU rfl rfl) ?_
      refine wl_p (fun _ => o_move rfl) ?_
      refine wl_p (fun _ => (o_iaddrP (i) Try.underlying97 Try.sizeOf25 rfl rfl rfl (by omega))) ?_
      refine wl_r (o_ldU Try.isAgg25 rfl f (by omega)) ?_
      refine wl_p (fun _ => o_addU rfl rfl) ?_
      refine wl_p (fun _ => o_assign rfl) ?_
      refine wl_nild ?_
      refine rk_seq ?_
      refine rk_region ?_
      refine wl_p (fun _ => o_move rfl) ?_
      refine wl_call rfl (C_rot _ (by omega) (by omega)) ?_
      rintro v73 w73 ⟨rfl, rfl⟩
      refine wl_p (fun _ => o_move rfl) ?_
      refine wl_call rfl (C_rot _ (by omega) (by omega)) ?_
      rintro v75 w75 ⟨rfl, rfl⟩
      refine wl_p (fun _ => o_xorU rfl rfl) ?_
      refine wl_p (fun _ => o_move rfl) ?_
      refine wl_call rfl (C_rot _ (by omega) (by omega)) ?_
      rintro v78 w78 ⟨rfl, rfl⟩
      refine wl_p (fun _ => o_xorU rfl rfl) ?_
      refine wl_p (fun _ => o_assign rfl) ?_
      refine wl_nil ?_
      refine rk_seq ?_
      refine rk_region ?_
      refine wl_p (fun _ => o_move rfl) ?_
      refine wl_p (fun _ => o_move rfl) ?_
      refine wl_p (fun _ => o_move rfl) ?_
      refine wl_p (fun _ => o_andU rfl rfl) ?_
      refine wl_p (fun _ => o_move rfl) ?_
      refine wl_p (fun _ => o_move rfl) ?_
      refine wl_p (fun _ => o_andU rfl rfl) ?_
      refine wl_p (fun _ => o_xorU rfl rfl) ?_
      refine wl_p (fun _ => o_move rfl) ?_
      refine wl_p (fun _ => o_move rfl) ?_
      refine wl_p (fun _ => o_andU rfl rfl) ?_
      refine wl_p (fun _ => o_xorU rfl rfl) ?_
      refine wl_p (fun _ => o_addU rfl rfl) ?_
      refine wl_p (fun _ => o_assign rfl) ?_
      refine wl_nil ?_
      refine rk_region ?_
      refine wl_p (fun _ => o_move rfl) ?_
      refine wl_p (fun _ => o_move rfl) ?_
      refine wl_p (fun _ => o_addU rfl rfl) ?_
      refine wl_p (fun _ => o_move rfl) ?_
      refine wl_p (fun _ => o_move rfl) ?_
      refine wl_p (fun _ => o_move rfl) ?_
      refine wl_p (fun _ => o_move rfl) ?_
      refine wl_p (fun _ => o_move rfl) ?_
      refine wl_p (fun _ => o_addU rfl rfl) ?_
      refine wl_p (fun _ => o_move rfl) ?_
      refine wl_p (fun _ => o_move rfl) ?_
      refine wl_p (fun _ => o_move rfl) ?_
      refine wl_p (fun _ => o_assign rfl) ?_
      refine wl_p (fun _ => o_assign rfl) ?_
      refine wl_p (fun _ => o_assign rfl) ?_
      refine wl_p (fun _ => o_assign rfl) ?_
      refine wl_p (fun _ => o_assign rfl) ?_
      refine wl_p (fun _ => o_assign rfl) ?_
      refine wl_p (fun _ => o_assign rfl) ?_
      refine wl_p (fun _ => o_assign rfl) ?_
      refine wl_nil ?_
      refine rk_blk ?_
      refine rk_region ?_
      refine wl_p (fun _ => o_add rfl rfl (by omega) (by omega)) ?_
      refine wl_p (fun _ => o_move rfl) ?_
      refine wl_nil ?_
      exact rk_againf (Fr.le_of (by kernel_rfl) (by kernel_rfl) (by repeat' constructor)) ⟨i + 1, (i : Int) + 1, rnd kl[i] W[i] s, rfl, by omega, by omega, rfl, rnds_next hs _ _, hw1⟩ (by omega)
    · refine rk_exit rfl ?_
      obtain rfl : i = 80 := by omega
      rw [hR] at hs
      subst hs
      exact rk_tof hj (Fr.le_of (by kernel_rfl) (by kernel_rfl) (by repeat' constructor)) ⟨rfl, hw1⟩
  rintro fr w5 ⟨rfl, hw1⟩
  first | refine rk_frame (by simp only [List.cons_append, List.nil_append, List.drop_succ_cons, List.drop_zero]; rfl) ?_ | refine wl_frame (by simp only [List.cons_append, List.nil_append, List.drop_succ_cons, List.drop_zero]; rfl) ?_
  have shw1 := hw1.size
  simp only [drew_size] at shw1
  replace hw := hw.trans (hw1.mono hw.size)
  replace f := f.u hw1
  replace f3 := f3.u hw1
  replace f2 := f2.u hw1
  replace f4 := f4.u hw1
  replace f_1 := f_1.u hw1
  clear hR
  refine rk_seq ?_
  refine rk_seq ?_
  refine rk_region ?_
  refine wl_p (fun _ => o_move rfl) ?_
  refine wl_p (fun _ => o_move rfl) ?_
  refine wl_p (fun _ => o_move rfl) ?_
  refine wl_p (fun _ => o_move rfl) ?_
  refine wl_p (fun _ => o_move rfl) ?_
  refine wl_p (fun _ => o_move rfl) ?_
  refine wl_p (fun _ => o_move rfl) ?_
  refine wl_p (fun _ => o_move rfl) ?_
  refine wl_p (fun _ => (o_buildU [R.a, R.b, R.c, R.d, R.e, R.f, R.g, R.h] Try.underlying66 (by rfl) (by rfl) rfl rfl (by rfl) (by rfl) (fun _ => by kernel_rfl))) ?_
  refine wl_p (fun _ => o_move rfl) ?_
  refine wl_nil ?_
  refine rk_block ?_
  obtain ⟨x, hx⟩ : ∃ x, R.list = x := ⟨_, rfl⟩
  rw [hx] at hrr hRl
  rw [show [R.a, R.b, R.c, R.d, R.e, R.f, R.g, R.h] = x from hx]
  refine rk_joinf (fun fb fr w6 => fr = [] ++ fb.drop 1 ∧ Blk w6 g2 66 (vU r) ∧ Blk w6 g4 66 (vU (List.replicate 8 0)) ∧ w5.heap.size ≤ w6.heap.size ∧ Below w.heap.size w w6) ?_ (fun ks hj => ?_)
  rotate_left
  · refine rk_loopf (fun fb m fr w6 => ∃ (i : Nat) (v : Int) (q : List UInt64), fr = [(115, .int .i64 v)] ++ fb ∧ v = i ∧ i ≤ 8 ∧ m = 8 - i ∧ q = (List.zipWith (· + ·) l x).take i ++ l.drop i ∧ Blk w6 g2 66 (vU q) ∧ Blk w6 g4 66 (vU (List.replicate 8 0)) ∧ w5.heap.size ≤ w6.heap.size ∧ Below w.heap.size w w6) (n := 8) (Fr.le_of (by kernel_rfl) (by kernel_rfl) (by repeat' constructor)) ⟨0, _, _, rfl, rfl, by omega, rfl, rfl, f2, f4, Nat.le_refl _, hw⟩ ?_
    clear hw f2 f4 f_1 f f3
    rintro m fr w6 ⟨i, v, q, rfl, rfl, hi, rfl, hq, f2, f4, hsz, hw⟩
    have shw := hw.size
    have hql : q.length = 8 := by
      rw [hq, List.length_append, List.length_take, List.length_zipWith, List.length_drop]; omega
    first | refine rk_frame (by simp only [List.cons_append, List.nil_append, List.drop_succ_cons, List.drop_zero]; rfl) ?_ | refine wl_frame (by simp only [List.cons_append, List.nil_append, List.drop_succ_cons, List.drop_zero]; rfl) ?_
    refine rk_seq ?_
    refine rk_region ?_
    refine wl_p (fun _ => o_lt rfl rfl) ?_
    refine wl_nil ?_
    refine rk_seq ?_
    refine rk_if rfl (fun h116 => ?_) (fun h116 => ?_)
    · have hix : i < x.length := by omega
      refine rk_skip ?_
      refine rk_seq ?_
      refine rk_block ?_
      refine rk_seq ?_
      refine rk_region ?_
      refine wl_p (fun _ => o_move rfl) ?_
      refine wl_p (fun _ => (o_indexU (i) Try.underlying66 Try.sizeOf25 Try.isAgg25 rfl rfl rfl (by omega) (by omega))) ?_
      refine wl_p (fun _ => o_assign rfl) ?_
      refine wl_p (fun _ => o_assign rfl) ?_
      refine wl_nil ?_
      refine rk_region ?_
      refine wl_p (fun _ => o_move rfl) ?_
      refine wl_p (fun _ => (o_iaddrP (i) Try.underlying66 Try.sizeOf25 rfl rfl rfl (by omega))) ?_
      refine wl_r (o_ldU Try.isAgg25 rfl f2 (by omega)) ?_
      refine wl_p (fun _ => o_move rfl) ?_
      refine wl_p (fun _ => o_addU rfl rfl) ?_
      refine wl_p (fun _ => (o_iaddrP (i) Try.underlying66 Try.sizeOf25 rfl rfl rfl (by omega))) ?_
      refine wl_stU Try.sizeOf25 rfl f2 rfl (by omega) ?_
      rintro w_3 f g_2 e_2
      have s_2 := g_2.size
      replace hw := hw.trans (below_of_grownBy g_2.g hw.size (by omega))
      replace f4 := f4.k g_2.g (ap_some (by omega))
      clear f2
      refine wl_nil ?_
      refine rk_blk ?_
      refine rk_region ?_
      refine wl_p (fun _ => o_add rfl rfl (by omega) (by omega)) ?_
      refine wl_p (fun _ => o_move rfl) ?_
      refine wl_nil ?_
      exact rk_againf (Fr.le_of (by kernel_rfl) (by kernel_rfl) (by repeat' constructor)) ⟨i + 1, (i : Int) + 1, _, rfl, by omega, by omega, rfl, zip_next hq hRl (by omega) hix, f, f4, by omega, hw⟩ (by omega)
    · refine rk_exit rfl ?_
      obtain rfl : i = 8 := by omega
      rw [List.take_of_length_le (by rw [List.length_zipWith]; omega), List.drop_of_length_le (by omega), List.append_nil, ← hrr] at hq
      subst hq
      exact rk_tof hj (Fr.le_of (by kernel_rfl) (by kernel_rfl) (by repeat' constructor)) ⟨rfl, f2, f4, hsz, hw⟩
  clear hw f2 f4 f_1 f f3
  rintro fr w6 ⟨rfl, f2, f4, hsz, hw⟩
  have shw := hw.size
  first | refine rk_frame (by simp only [List.cons_append, List.nil_append, List.drop_succ_cons, List.drop_zero]; rfl) ?_ | refine wl_frame (by simp only [List.cons_append, List.nil_append, List.drop_succ_cons, List.drop_zero]; rfl) ?_
  refine rk_seq ?_
  refine rk_region ?_
  refine wl_r (o_ldUa Try.isAgg66 Try.sizeOf66 rfl f2 hr8) ?_
  refine wl_stUa Try.sizeOf66 rfl f4 rfl hr8 (by rfl) ?_
  rintro w_3 f g_2 e_2
  have s_2 := g_2.size
  replace hw := hw.trans (below_of_grownBy g_2.g hw.size (by omega))
  replace f2 := f2.k g_2.g (ap_some (by omega))
  clear f4
  refine wl_nil ?_
  refine ret_cell rfl rfl Try.isAgg66 Try.sizeOf66 f (by rw [vU_length, hr8]) ?_
  exact ⟨rfl, hw⟩

/-- The bytes of a state. -/
def byteAt (l : List UInt64) (i : Nat) : UInt8 := (shrU (l.getD (i / 8) 0) (56 - 8 * (i % 8))).toUInt8
def bytesU (l : List UInt64) : List UInt8 := (List.range 64).map (byteAt l)
theorem bytesU_len (l : List UInt64) : (bytesU l).length = 64 := by simp [bytesU]
theorem bytes_next {l : List UInt64} {q : List UInt8} {i : Nat} (hi : i < 64) (hq : q = (bytesU l).take i ++ List.replicate (64 - i) 0) (h1 : i / 8 < l.length) : q.set i (shrU l[i / 8] (56 - 8 * (i % 8))).toUInt8 = (bytesU l).take (i + 1) ++ List.replicate (64 - (i + 1)) 0 := by
  have ht : ((bytesU l).take i).length = i := by rw [List.length_take, bytesU_len]; omega
  rw [hq, List.set_append_right _ _ (by omega), ht, Nat.sub_self, show 64 - i = (64 - (i + 1)) + 1 by omega, List.replicate_succ, List.set_cons_zero, List.take_succ_eq_append_getElem (by rw [bytesU_len]; omega), List.append_assoc]
  congr 2
  simp [bytesU, byteAt, h1]
theorem C_sum {l : List UInt64} {r : List UInt8} (w : World) (hr : bytesU l = r) (hl : l.length = 8) :
    CallsR Try.prog 29 [.agg (vU l).toArray] w fun v w' => v = .agg (B8 r).toArray ∧ Below w.heap.size w w' := by
  have hr64 : r.length = 64 := by rw [← hr, bytesU_len]
  refine callsR Try.func29 rfl rfl (by kernel_rfl) rfl ?_
  have hw := Below.refl w.heap.size w
  refine rk_seq ?_
  refine rk_region ?_
  refine wl_boxg _ rfl (by rfl) ?_
  rintro g1 w1 f1 b1 i1 i1_1
  have s1 := b1.size
  replace hw := hw.trans (b1.mono hw.size)
  refine wl_allocB Try.underlying64 Try.zeroValue64 (by rfl) ?_
  rintro g2 w2 f2 b2 i2 i2_1
  have s2 := b2.size
  replace hw := hw.trans (b2.mono hw.size)
  replace f1 := f1.u b2
  refine wl_nil ?_
  refine rk_seq ?_
  refine rk_region ?_
  refine wl_allocB Try.underlying64 Try.zeroValue64 (by rfl) ?_
  rintro g3 w3 f3 b3 i3 i3_1
  have s3 := b3.size
  replace hw := hw.trans (b3.mono hw.size)
  replace f1 := f1.u b3
  replace f2 := f2.u b3
  refine wl_nil ?_
  refine rk_seq ?_
  refine rk_seq ?_
  refine rk_region ?_
  refine wl_p (fun _ => o_move rfl) ?_
  refine wl_nil ?_
  refine rk_block ?_
  refine rk_joinf (fun fb fr w6 => fr = [] ++ fb.drop 1 ∧ Blk w6 g3 64 (B8 r) ∧ Blk w6 g2 64 (B8 (List.replicate 64 0)) ∧ w3.heap.size ≤ w6.heap.size ∧ Below w.heap.size w w6) ?_ (fun ks hj => ?_)
  rotate_left
  · refine rk_loopf (fun fb m fr w6 => ∃ (i : Nat) (v : Int) (q : List UInt8), fr = [(5, .int .i64 v)] ++ fb ∧ v = i ∧ i ≤ 64 ∧ m = 64 - i ∧ q = (bytesU l).take i ++ List.replicate (64 - i) 0 ∧ Blk w6 g3 64 (B8 q) ∧ Blk w6 g1 66 (vU l) ∧ Blk w6 g2 64 (B8 (List.replicate 64 0)) ∧ w3.heap.size ≤ w6.heap.size ∧ Below w.heap.size w w6) (n := 64) (Fr.le_of (by kernel_rfl) (by kernel_rfl) (by repeat' constructor)) ⟨0, _, _, rfl, rfl, by omega, rfl, rfl, f3, f1, f2, Nat.le_refl _, hw⟩ ?_
    clear hw f2 f1 f3
    rintro m fr w6 ⟨i, v, q, rfl, rfl, hi, rfl, hq, f3, f1, f2, hsz, hw⟩
    have shw := hw.size
    have hql : q.length = 64 := by
      rw [hq, List.length_append, List.length_take, bytesU_len, List.length_replicate]; omega
    first | refine rk_frame (by simp only [List.cons_append, List.nil_append, List.drop_succ_cons, List.drop_zero]; rfl) ?_ | refine wl_frame (by simp only [List.cons_append, List.nil_append, List.drop_succ_cons, List.drop_zero]; rfl) ?_
    refine rk_seq ?_
    refine rk_region ?_
    refine wl_p (fun _ => o_lt rfl rfl) ?_
    refine wl_nil ?_
    refine rk_seq ?_
    refine rk_if rfl (fun h6 => ?_) (fun h6 => ?_)
    · refine rk_skip ?_
      refine rk_seq ?_
      refine rk_block ?_
      refine rk_seq ?_
      refine rk_region ?_
      refine wl_p (fun _ => o_move rfl) ?_
      refine wl_p (fun _ => o_assign rfl) ?_
      refine wl_nil ?_
      refine rk_region ?_
      refine wl_p (fun _ => o_move rfl) ?_
      refine wl_p (fun _ => o_move rfl) ?_
      refine wl_p (fun _ => o_quo rfl rfl (by omega) (by omega) (by omega)) ?_
      refine wl_p (fun _ => (o_iaddrP (i / 8) Try.underlying66 Try.sizeOf25 rfl rfl (by omega) (by omega))) ?_
      refine wl_r (o_ldU Try.isAgg25 rfl f1 (by omega)) ?_
      refine wl_p (fun _ => o_move rfl) ?_
      refine wl_p (fun _ => o_rem rfl rfl (by omega) (by omega)) ?_
      refine wl_p (fun _ => o_mul rfl rfl (by omega) (by omega)) ?_
      refine wl_p (fun _ => o_sub rfl rfl (by omega) (by omega)) ?_
      refine wl_p (fun _ => o_shrU rfl rfl (by omega) (by omega)) ?_
      refine wl_p (fun _ => o_convU8 (src := 25) (dst := 5) Try.underlying25 Try.underlying5 rfl) ?_
      refine wl_p (fun _ => (o_iaddrP (i) Try.underlying64 Try.sizeOf5 rfl rfl rfl (by omega))) ?_
      refine wl_stB Try.sizeOf5 rfl f3 rfl (by omega) ?_
      rintro w_1 f g e
      have s := g.size
      replace hw := hw.trans (below_of_grownBy g.g hw.size (by omega))
      replace f2 := f2.k g.g (ap_some (by omega))
      replace f1 := f1.k g.g (ap_some (by omega))
      clear f3
      refine wl_nil ?_
      refine rk_blk ?_
      refine rk_region ?_
      refine wl_p (fun _ => o_add rfl rfl (by omega) (by omega)) ?_
      refine wl_p (fun _ => o_move rfl) ?_
      refine wl_nil ?_
      rw [show (56 - 8 * ((i : Int) % 8)).toNat = 56 - 8 * (i % 8) by omega] at f
      exact rk_againf (Fr.le_of (by kernel_rfl) (by kernel_rfl) (by repeat' constructor)) ⟨i + 1, (i : Int) + 1, _, rfl, by omega, by omega, rfl, bytes_next (by omega) hq (by omega), f, f1, f2, by omega, hw⟩ (by omega)
    · refine rk_exit rfl ?_
      obtain rfl : i = 64 := by omega
      rw [List.take_of_length_le (by rw [bytesU_len]; omega), Nat.sub_self, List.replicate_zero, List.append_nil, hr] at hq
      subst hq
      exact rk_tof hj (Fr.le_of (by kernel_rfl) (by kernel_rfl) (by repeat' constructor)) ⟨rfl, f3, f2, hsz, hw⟩
  clear hw f2 f1 f3
  rintro fr w6 ⟨rfl, f3, f2, hsz, hw⟩
  have shw := hw.size
  first | refine rk_frame (by simp only [List.cons_append, List.nil_append, List.drop_succ_cons, List.drop_zero]; rfl) ?_ | refine wl_frame (by simp only [List.cons_append, List.nil_append, List.drop_succ_cons, List.drop_zero]; rfl) ?_
  refine rk_seq ?_
  refine rk_region ?_
  refine wl_r (o_ldBa Try.isAgg64 Try.sizeOf64 rfl f3 hr64) ?_
  refine wl_stBa Try.sizeOf64 rfl f2 rfl hr64 (by rfl) ?_
  rintro w_1 f g e
  have s := g.size
  replace hw := hw.trans (below_of_grownBy g.g hw.size (by omega))
  replace f3 := f3.k g.g (ap_some (by omega))
  clear f2
  refine wl_nil ?_
  refine ret_cell rfl rfl Try.isAgg64 Try.sizeOf64 f (by rw [B8_length, hr64]) ?_
  exact ⟨rfl, hw⟩
end Go.Proofs.Ytpjedpmbninfcaa
