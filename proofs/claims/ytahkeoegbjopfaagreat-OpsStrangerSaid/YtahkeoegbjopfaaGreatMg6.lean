/-
  Walks of the reference for sums: a piece, all pieces, bytes, what is joined.
-/
import Derived.Test.YtahkeoegbjopfaaGreatMg5
import Derived.Lib.BitFns
import Derived.Laws.BitsAllLaws
namespace Go.Proofs.YtahkeoegbjopfaaGreat
set_option maxRecDepth 100000
open Go.RowKit
def wsAt (p : By) (n : Nat) (q : List UInt64) : Prop := (n ≤ 16 ∧ q = ws80 p (8 * n)) ∨ (16 ≤ n ∧ q = wx p (n - 16) ++ List.replicate (64 - (n - 16)) 0)
theorem wsAt_len {p : By} {n : Nat} {q : List UInt64} (hn : n ≤ 80) (h : wsAt p n q) : q.length = 80 := by
 rcases h with ⟨_, rfl⟩ | ⟨h1, rfl⟩
 ·exact ws80_len p _
 ·rw [List.length_append, wx_len, List.length_replicate]; omega
theorem wsAt_low {p : By} {n : Nat} {q : List UInt64} (hp : p.length = 128) (h : wsAt p n q) (hn : n < 16) : q = ws80 p (8 * n) := by
 rcases h with ⟨_, h⟩ | ⟨h1, h⟩
 ·exact h
 ·omega
theorem wsAt_high {p : By} {n : Nat} {q : List UInt64} (hp : p.length = 128) (h : wsAt p (n + 16) q) : q = wx p n ++ List.replicate (64 - n) 0 := by
 rcases h with ⟨h1, h⟩ | ⟨h1, h⟩
 ·obtain rfl : n = 0 := by omega
  rw [h]; exact wx_start hp
 ·rw [h, Nat.add_sub_cancel]
theorem list_stOf {l : List UInt64} (hl : l.length = 8) : (stOf l).list = l := by
 match l, hl with
 | [a, b, c, d, e, f, g, h], _ => rfl
theorem zip_comm (l m : List UInt64) : List.zipWith (· + ·) l m = List.zipWith (· + ·) m l := by
 rw [List.zipWith_comm]; congr 1; funext a b; exact UInt64.add_comm _ _
set_option maxHeartbeats 4000000 in
set_option maxRecDepth 100000 in
theorem C_refpiece {l : List UInt64} {A : Option Addr} {p : By} {r : List UInt64} {n c : Nat} (w : World) (hpr : Rd w A p) (hr : pieceU l p = r) (hl : l.length = 8) (hp : p.length = 128) (hn : n = p.length) :
  CallsR Tryz.prog 170 [.agg (vU l).toArray, .slice A n c] w fun v w' => v = .agg (vU r).toArray ∧ Below w.heap.size w w' := by
 subst hn
 have hr8 : r.length = 8 := by rw [← hr]; exact pieceU_len p hl
 obtain ⟨W, hW⟩ : ∃ W, wx p 64 = W := ⟨_, rfl⟩
 have hW8 : W.length = 80 := by rw [← hW, wx_len]
 obtain ⟨kl, hkl⟩ : ∃ kl, Kl = kl := ⟨_, rfl⟩
 have hK8 : kl.length = 80 := by rw [← hkl]; rfl
 obtain ⟨s0, hs0⟩ : ∃ s0, stOf l = s0 := ⟨_, rfl⟩
 obtain ⟨R, hR⟩ : ∃ R, rnds kl W 80 s0 = R := ⟨_, rfl⟩
 have hrr : r = List.zipWith (· + ·) l R.list := by
  rw [← hr, ← hR, ← hkl, ← hW, ← hs0]; rfl
 refine callsR Tryz.func170 rfl rfl (by kernel_rfl) rfl ?_
 have hw := Below.refl w.heap.size w
 refine zs ?_
 refine wl_boxg _ rfl (by rfl) ?_
 rintro g2 w2 f2 b2 i2 i2_1
 have s2 := b2.size
 replace hw := hw.trans (b2.mono hw.size)
 refine wl_allocU Tryz.underlying166 Tryz.zeroValue166 (by rfl) ?_
 rintro g4 w4 f4 b4 i4 i4_1
 have s4 := b4.size
 replace hw := hw.trans (b4.mono hw.size)
 replace f2 := f2.u b4
 refine wl_nil (zs ?_)
 refine wl_call rfl (C_refK _ hkl) ?_
 rintro v18 w18 ⟨rfl, b18⟩
 have s18 := b18.size
 replace hw := hw.trans (b18.mono hw.size)
 replace f2 := f2.u b18
 replace f4 := f4.u b18
 refine wl_allocstU (q := kl) Tryz.underlying197 zv80 rfl (by first | exact Tryz.sizeOf197 | kernel_rfl) (fun _ => rfl) hK8 ?_
 rintro g5 w5 f b5 i5 j5
 have sb5 := b5.size
 replace hw := hw.trans (b5.mono hw.size)
 replace f4 := f4.u b5
 replace f2 := f2.u b5
 refine wl_nil (zs ?_)
 refine wl_allocU Tryz.underlying197 Tryz.zeroValue197 (by rfl) ?_
 rintro g6 w6 f6 b6 i6 i6_1
 have s6 := b6.size
 replace hw := hw.trans (b6.mono hw.size)
 replace f2 := f2.u b6
 replace f4 := f4.u b6
 replace f := f.u b6
 refine wl_nil (rk_seq (zs (za rfl (wl_nil (rk_block ?_)))))
 refine rk_joinf (fun fb fr w5 => fr = [] ++ fb.drop 1 ∧ Blk w5 g6 197 (vU W) ∧ Blk w5 g5 197 (vU kl) ∧ Blk w5 g2 166 (vU l) ∧ Blk w5 g4 166 (vU (List.replicate 8 0)) ∧ w6.heap.size ≤ w5.heap.size ∧ Below w.heap.size w w5) ?_ (fun ks hj => ?_)
 rotate_left
 ·refine rk_loopf (fun fb m fr w5 => ∃ (n : Nat) (v : Int) (q : List UInt64), fr = [(7, .int .i64 v)] ++ fb.drop 1 ∧ v = n ∧ n ≤ 80 ∧ m = 80 - n ∧ wsAt p n q ∧ Blk w5 g6 197 (vU q) ∧ Blk w5 g5 197 (vU kl) ∧ Blk w5 g2 166 (vU l) ∧ Blk w5 g4 166 (vU (List.replicate 8 0)) ∧ w6.heap.size ≤ w5.heap.size ∧ Below w.heap.size w w5) (n := 80) (Fr.le_of (by kernel_rfl) (by kernel_rfl) (by repeat' constructor)) ⟨0, _, _, rfl, rfl, by omega, rfl, .inl ⟨by omega, (ws80_zero p).symm⟩, f6, f, f2, f4, Nat.le_refl _, hw⟩ ?_
  clear hw f6 f f2 f4
  rintro m fr w5 ⟨n, v, q, rfl, rfl, hn, rfl, hq, f6, f, f2, f4, hsz, hw⟩
  have shw := hw.size
  have hql := wsAt_len hn hq
  first | refine zf ?_ | refine zg ?_
  refine rk_seq (zs (zm rfl ?_))
  refine zp (o_lt rfl rfl) ?_
  refine wl_nil ?_
  refine rk_if rfl (fun h20 => ?_) (fun h20 => ?_)
  ·refine rk_skip ?_
   refine rk_seq (rk_block (rk_seq (zs (zm rfl ?_))))
   refine zp (o_lt rfl rfl) ?_
   refine wl_nil ?_
   refine rk_if rfl (fun h24 => ?_) (fun h24 => ?_)
   ·have hq8 := wsAt_low hp hq (by omega)
    refine rk_seq (zs (za rfl (wl_nil (rk_block ?_))))
    refine rk_joinf (fun fb fr w7 => fr = [] ++ fb.drop 1 ∧ Blk w7 g6 197 (vU (ws80 p (8 * (n + 1)))) ∧ Blk w7 g5 197 (vU kl) ∧ Blk w7 g2 166 (vU l) ∧ Blk w7 g4 166 (vU (List.replicate 8 0)) ∧ w6.heap.size ≤ w7.heap.size ∧ Below w.heap.size w w7) ?_ (fun ks2 hj2 => ?_)
    rotate_left
    ·refine rk_loopf (fun fb m fr w7 => ∃ (i : Nat) (v : Int) (q2 : List UInt64), fr = [(8, .int .i64 v)] ++ fb.drop 1 ∧ v = i ∧ i ≤ 8 ∧ m = 8 - i ∧ q2 = ws80 p (8 * n + i) ∧ Blk w7 g6 197 (vU q2) ∧ Blk w7 g5 197 (vU kl) ∧ Blk w7 g2 166 (vU l) ∧ Blk w7 g4 166 (vU (List.replicate 8 0)) ∧ w6.heap.size ≤ w7.heap.size ∧ Below w.heap.size w w7) (n := 8) (Fr.le_of (by kernel_rfl) (by kernel_rfl) (by repeat' constructor)) ⟨0, _, q, rfl, rfl, by omega, rfl, hq8, f6, f, f2, f4, hsz, hw⟩ ?_
     clear hw f6 f f2 f4
     rintro m fr w7 ⟨i, v, q2, rfl, rfl, hi, rfl, hq2, f6, f, f2, f4, hsz7, hw⟩
     have shw7 := hw.size
     have hq2l : q2.length = 80 := by rw [hq2]; exact ws80_len _ _
     first | refine zf ?_ | refine zg ?_
     refine rk_seq (zs (zm rfl ?_))
     refine zp (o_lt rfl rfl) ?_
     refine wl_nil ?_
     refine rk_if rfl (fun h26 => ?_) (fun h26 => ?_)
     ·have hil : 8 * n + i < p.length := by omega
      have hnx := ws80_next hil (by rw [ws80_len]; omega)
      refine rk_skip (rk_seq (rk_block ?_))
      refine rk_draw (id := 10) (none) [0, 0, 2, 4, 8, 0, 0, 64, 0, 384, 544, 1024, 2048, 4112, 16383, 32767] [0, 0, 2, 6, 14, 0, 0, 64, 0, 448, 992, 2016, 4064, 8190, 16383, 32767] 32768 0 [(.p, 0), (.p, 1), (.p, 2), (.r, 3), (.p, 4), (.p, 5), (.p, 6), (.p, 7), (.p, 8), (.p, 9), (.p, 10), (.r, 11), (.p, 12), (.p, 13), (.p, 14), (.l, 15)] (by kernel_rfl) (by kernel_rfl) (by kernel_rfl) (by kernel_rfl) (by kernel_rfl) ?_
      replace hw := hw.drew
      replace f4 := f4.d
      replace f2 := f2.d
      replace f := f.d
      replace f6 := f6.d
      refine zm rfl (zm rfl ?_)
      refine zp (o_iaddrP (n) Tryz.underlying197 Tryz.sizeOf43 rfl rfl rfl (by omega)) ?_
      refine wl_r (o_ldU Tryz.isAgg43 rfl f6 (by omega)) ?_
      refine zp (o_shlU rfl rfl (by omega) (by omega)) ?_
      refine zm rfl (zm rfl ?_)
      refine zp (o_mul rfl rfl (by omega) (by omega)) ?_
      refine zm rfl ?_
      refine zp (o_add rfl rfl (by omega) (by omega)) ?_
      refine zp (o_iaddrA1 (8 * n + i) Tryz.underlying39 Tryz.sizeOf5 rfl rfl (by omega) (Reads.some_ hpr.to_Reads (by decide) (by omega)) (by omega)) ?_
      refine wl_r (o_loadB Tryz.isAgg5 rfl (hpr.u hw) (by omega)) ?_
      refine zp (o_conv8U (src := 5) (dst := 43) Tryz.underlying5 Tryz.underlying43 rfl) ?_
      refine zp (o_orU rfl rfl) ?_
      refine zp (o_iaddrP (n) Tryz.underlying197 Tryz.sizeOf43 rfl rfl rfl (by omega)) ?_
      refine wl_stU Tryz.sizeOf43 rfl f6 rfl (by omega) ?_
      rintro w_1 f_1 g e
      simp only [drew_size] at e
      have s := g.size
      simp only [drew_size] at s
      replace hw := hw.trans (below_of_grownBy g.g hw.size (by omega))
      replace f := f.k g.g (ap_some (by omega))
      replace f2 := f2.k g.g (ap_some (by omega))
      replace f4 := f4.k g.g (ap_some (by omega))
      clear f6
      refine wl_nild ?_
      refine rk_blk ?_
      refine rk_region (zm rfl ?_)
      refine zp (o_add rfl rfl (by omega) (by omega)) ?_
      refine za rfl (wl_nil ?_)
      exact rk_againf (Fr.le_of (by kernel_rfl) (by kernel_rfl) (by repeat' constructor)) ⟨i + 1, (i : Int) + 1, _, rfl, by omega, by omega, rfl, by
       subst hq2
       have e : (8 * n + i) / 8 = n := by omega
       simp only [e] at hnx
       rw [show 8 * n + (i + 1) = 8 * n + i + 1 by omega]
       exact hnx, f_1, f, f2, f4, by omega, hw⟩ (by omega)
     ·refine rk_exit rfl ?_
      obtain rfl : i = 8 := by omega
      rw [hq2] at f6
      exact rk_tof hj2 (Fr.le_of (by kernel_rfl) (by kernel_rfl) (by repeat' constructor)) ⟨rfl, f6, f, f2, f4, hsz7, hw⟩
    clear hw f6 f f2 f4
    rintro fr w7 ⟨rfl, f6, f, f2, f4, hsz7, hw⟩
    have shw7 := hw.size
    first | refine zf ?_ | refine zg ?_
    refine rk_exit rfl ?_
    refine rk_region (zm rfl ?_)
    refine zp (o_add rfl rfl (by omega) (by omega)) ?_
    refine za rfl (wl_nil ?_)
    exact rk_againf (Fr.le_of (by kernel_rfl) (by kernel_rfl) (by repeat' constructor)) ⟨n + 1, (n : Int) + 1, _, rfl, by omega, by omega, rfl, .inl ⟨by omega, rfl⟩, f6, f, f2, f4, hsz7, hw⟩ (by omega)
   ·obtain ⟨k, rfl⟩ : ∃ k, n = k + 16 := ⟨n - 16, by omega⟩
    have hq3 := wsAt_high hp hq
    have hkq : k + 16 - 16 < q.length := by omega
    have hkq2 : k + 16 - 7 < q.length := by omega
    refine rk_skip (rk_seq ?_)
    refine rk_draw (id := 11) (none) [0, 1, 2, 4, 0, 16, 32, 64, 15, 511] [0, 1, 3, 7, 0, 16, 48, 112, 15, 511] 0 0 [(.p, 0), (.p, 1), (.p, 2), (.r, 3), (.p, 4), (.p, 5), (.p, 6), (.r, 7), (.p, 8), (.p, 9)] (by kernel_rfl) (by kernel_rfl) (by kernel_rfl) (by kernel_rfl) (by kernel_rfl) ?_
    replace hw := hw.drew
    replace f4 := f4.d
    replace f2 := f2.d
    replace f := f.d
    replace f6 := f6.d
    refine zm rfl ?_
    refine zp (o_sub rfl rfl (by omega) (by omega)) ?_
    refine zp (o_iaddrP (k + 16 - 15) Tryz.underlying197 Tryz.sizeOf43 rfl rfl (by omega) (by omega)) ?_
    refine wl_r (o_ldU Tryz.isAgg43 rfl f6 (by omega)) ?_
    refine zm rfl ?_
    refine zp (o_sub rfl rfl (by omega) (by omega)) ?_
    refine zp (o_iaddrP (k + 16 - 2) Tryz.underlying197 Tryz.sizeOf43 rfl rfl (by omega) (by omega)) ?_
    refine wl_r (o_ldU Tryz.isAgg43 rfl f6 (by omega)) ?_
    refine za rfl (za rfl ?_)
    refine wl_nild ?_
    refine rk_drawo (id := 12) (none) [0, 0, 2, 4, 8, 0, 32, 0, 192, 320, 0, 1024, 2560, 4112, 0, 16384, 32768, 65536, 139264, 0, 524544, 0, 3145728, 5242880, 0, 16777216, 41943040, 67371008, 268435455, 536870911] [0, 0, 2, 6, 14, 0, 32, 0, 224, 480, 0, 1024, 4064, 8190, 0, 16384, 49152, 114688, 262142, 0, 524768, 0, 3670496, 7864800, 0, 16777216, 66585056, 134217726, 268435455, 536870911] 542114112 5243200 [0, 1, 2, 3, 4, 5, 7, 10, 11, 14, 15, 16, 17, 19, 21, 24, 25, 6, 8, 9, 12, 13, 18, 20, 22, 23, 26, 27, 28, 29] [(.p, 0), (.p, 1), (.p, 2), (.p, 3), (.s, 4), (.p, 5), (.p, 7), (.p, 10), (.p, 11), (.p, 14), (.p, 15), (.p, 16), (.s, 17), (.p, 19), (.p, 21), (.p, 24), (.p, 25), (.c, 6), (.c, 8), (.p, 9), (.p, 12), (.p, 13), (.p, 18), (.c, 20), (.c, 22), (.p, 23), (.p, 26), (.p, 27), (.p, 28), (.l, 29)] (by kernel_rfl) (by kernel_rfl) (by kernel_rfl) (by kernel_rfl) (by kernel_rfl) ?_
    dsimp only [inOrder, nthOp]
    replace hw := hw.drew
    replace f6 := f6.d
    replace f := f.d
    replace f2 := f2.d
    replace f4 := f4.d
    refine zm rfl (zm rfl ?_)
    refine zp (o_sub rfl rfl (by omega) (by omega)) ?_
    refine zp (o_iaddrP (k + 16 - 16) Tryz.underlying197 Tryz.sizeOf43 rfl rfl (by omega) (by omega)) ?_
    refine wl_s (fun _ hk => (o_ldU Tryz.isAgg43 rfl (f6.u (below_of_grown_none hk)) hkq)) ?_
    refine zm rfl (zm rfl (zm rfl ?_))
    refine zp (o_shrU rfl rfl (by omega) (by omega)) ?_
    refine zm rfl ?_
    refine zp (o_sub rfl rfl (by omega) (by omega)) ?_
    refine zp (o_iaddrP (k + 16 - 7) Tryz.underlying197 Tryz.sizeOf43 rfl rfl (by omega) (by omega)) ?_
    refine wl_s (fun _ hk => (o_ldU Tryz.isAgg43 rfl (f6.u (below_of_grown_none hk)) hkq2)) ?_
    refine zm rfl (zm rfl (zm rfl ?_))
    refine zp (o_shrU rfl rfl (by omega) (by omega)) ?_
    refine wl_call rfl (C_refrot _ (by omega) (by omega)) ?_ (hq := .inr fun _ _ h => grown_of_below h.2 _)
    rintro v58 w58 ⟨rfl, b58⟩
    simp only [drew_size] at b58
    have s58 := b58.size
    simp only [drew_size] at s58
    replace hw := hw.trans (b58.mono hw.size)
    replace f4 := f4.u b58
    replace f2 := f2.u b58
    replace f := f.u b58
    replace f6 := f6.u b58
    refine wl_call rfl (C_refrot _ (by omega) (by omega)) ?_ (hq := .inr fun _ _ h => grown_of_below h.2 _)
    rintro v60 w60 ⟨rfl, b60⟩
    have s60 := b60.size
    replace hw := hw.trans (b60.mono hw.size)
    replace f6 := f6.u b60
    replace f := f.u b60
    replace f2 := f2.u b60
    replace f4 := f4.u b60
    refine zp (o_xorU rfl rfl) ?_
    refine zp (o_xorU rfl rfl) ?_
    refine zp (o_addU rfl rfl) ?_
    refine zp (o_addU rfl rfl) ?_
    refine wl_call rfl (C_refrot _ (by omega) (by omega)) ?_ (hq := .inr fun _ _ h => grown_of_below h.2 _)
    rintro v72 w72 ⟨rfl, b72⟩
    have s72 := b72.size
    replace hw := hw.trans (b72.mono hw.size)
    replace f4 := f4.u b72
    replace f2 := f2.u b72
    replace f := f.u b72
    replace f6 := f6.u b72
    refine wl_call rfl (C_refrot _ (by omega) (by omega)) ?_ (hq := .inr fun _ _ h => grown_of_below h.2 _)
    rintro v74 w74 ⟨rfl, b74⟩
    have s74 := b74.size
    replace hw := hw.trans (b74.mono hw.size)
    replace f6 := f6.u b74
    replace f := f.u b74
    replace f2 := f2.u b74
    replace f4 := f4.u b74
    refine zp (o_xorU rfl rfl) ?_
    refine zp (o_xorU rfl rfl) ?_
    refine zp (o_addU rfl rfl) ?_
    refine zp (o_iaddrP (k + 16) Tryz.underlying197 Tryz.sizeOf43 rfl rfl rfl (by omega)) ?_
    refine wl_stU Tryz.sizeOf43 rfl f6 rfl (by omega) ?_
    rintro w_1 f_1 g e
    have s := g.size
    replace hw := hw.trans (below_of_grownBy g.g hw.size (by omega))
    replace f4 := f4.k g.g (ap_some (by omega))
    replace f2 := f2.k g.g (ap_some (by omega))
    replace f := f.k g.g (ap_some (by omega))
    clear f6
    refine wl_nild ?_
    refine rk_blk ?_
    refine rk_region (zm rfl ?_)
    refine zp (o_add rfl rfl (by omega) (by omega)) ?_
    refine za rfl (wl_nil ?_)
    exact rk_againf (Fr.le_of (by kernel_rfl) (by kernel_rfl) (by repeat' constructor)) ⟨k + 16 + 1, ((k + 16 : Nat) : Int) + 1, _, rfl, by omega, by omega, rfl, .inr ⟨by omega, by
     rw [show k + 16 + 1 - 16 = k + 1 by omega]
     exact sched_next (by omega) hq3 hkq (by omega) hkq2 (by omega)⟩, f_1, f, f2, f4, by omega, hw⟩ (by omega)
  ·refine rk_exit rfl ?_
   obtain rfl : n = 80 := by omega
   have hqW := wsAt_high (n := 64) hp hq
   rw [hqW, hW, Nat.sub_self, List.replicate_zero, List.append_nil] at f6
   exact rk_tof hj (Fr.le_of (by kernel_rfl) (by kernel_rfl) (by repeat' constructor)) ⟨rfl, f6, f, f2, f4, hsz, hw⟩
 clear hw f6 f f2 f4
 rintro fr w5 ⟨rfl, f6, f, f2, f4, hsz, hw⟩
 have shw := hw.size
 first | refine zf ?_ | refine zg ?_
 refine zs ?_
 refine wl_r (o_ldUa Tryz.isAgg166 Tryz.sizeOf166 rfl f2 hl) ?_
 refine wl_allocU Tryz.underlying166 Tryz.zeroValue166 (by rfl) ?_
 rintro g11 w11 f11 b11 i11 i11_1
 have sb11 := b11.size
 replace hw := hw.trans (b11.mono hw.size)
 replace f4 := f4.u b11
 replace f2 := f2.u b11
 replace f := f.u b11
 replace f6 := f6.u b11
 refine wl_stUa Tryz.sizeOf166 rfl f11 rfl hl (by rfl) ?_
 rintro w_1 f_1 g e
 have s := g.size
 replace hw := hw.trans (below_of_grownBy g.g hw.size (by omega))
 replace f6 := f6.k g.g (ap_some (by omega))
 replace f := f.k g.g (ap_some (by omega))
 replace f2 := f2.k g.g (ap_some (by omega))
 replace f4 := f4.k g.g (ap_some (by omega))
 clear f11
 refine wl_nil (rk_seq (zs (za rfl (wl_nil (rk_block ?_)))))
 refine rk_joinf (fun fb fr w7 => ∃ sl, fr = [] ++ fb.drop 1 ∧ sl.length = 8 ∧ stOf sl = R ∧ Blk w7 g11 166 (vU sl) ∧ Blk w7 g6 197 (vU W) ∧ Blk w7 g5 197 (vU kl) ∧ Blk w7 g2 166 (vU l) ∧ Blk w7 g4 166 (vU (List.replicate 8 0)) ∧ w_1.heap.size ≤ w7.heap.size ∧ Below w.heap.size w w7) ?_ (fun ks hj => ?_)
 rotate_left
 ·refine rk_loopf (fun fb m fr w7 => ∃ (i : Nat) (v : Int) (sl : List UInt64), fr = [(12, .int .i64 v)] ++ fb.drop 1 ∧ v = i ∧ i ≤ 80 ∧ m = 80 - i ∧ sl.length = 8 ∧ stOf sl = rnds kl W i s0 ∧ Blk w7 g11 166 (vU sl) ∧ Blk w7 g6 197 (vU W) ∧ Blk w7 g5 197 (vU kl) ∧ Blk w7 g2 166 (vU l) ∧ Blk w7 g4 166 (vU (List.replicate 8 0)) ∧ w_1.heap.size ≤ w7.heap.size ∧ Below w.heap.size w w7) (n := 80) (Fr.le_of (by kernel_rfl) (by kernel_rfl) (by repeat' constructor)) ⟨0, _, l, rfl, rfl, by omega, rfl, hl, hs0, f_1, f6, f, f2, f4, Nat.le_refl _, hw⟩ ?_
  clear hw f_1 f6 f f2 f4
  rintro m fr w7 ⟨i, v, sl, rfl, rfl, hi, rfl, hsl, hss, f11, f6, f, f2, f4, hsz7, hw⟩
  have shw7 := hw.size
  first | refine zf ?_ | refine zg ?_
  refine rk_seq (zs (zm rfl ?_))
  refine zp (o_lt rfl rfl) ?_
  refine wl_nil ?_
  refine rk_if rfl (fun h83 => ?_) (fun h83 => ?_)
  ·have hik : i < kl.length := by omega
   have hiW : i < W.length := by omega
   have hnx := rnds_next hss.symm.symm hik hiW
   have h1 : 1 < sl.length := by omega
   have h2 : 2 < sl.length := by omega
   have h5 : 5 < sl.length := by omega
   have h6 : 6 < sl.length := by omega
   have h7 : 7 < sl.length := by omega
   refine rk_skip (rk_seq (rk_block (rk_seq ?_)))
   refine rk_draw (id := 17) (none) [0, 1, 0, 4, 3, 31] [0, 1, 0, 4, 3, 31] 0 0 [(.p, 0), (.r, 1), (.p, 2), (.r, 3), (.p, 4), (.p, 5)] (by kernel_rfl) (by kernel_rfl) (by kernel_rfl) (by kernel_rfl) (by kernel_rfl) ?_
   replace hw := hw.drew
   replace f4 := f4.d
   replace f2 := f2.d
   replace f := f.d
   replace f6 := f6.d
   replace f11 := f11.d
   refine zp (o_iaddrP (0) Tryz.underlying166 Tryz.sizeOf43 rfl rfl (by omega) (by omega)) ?_
   refine wl_r (o_ldU Tryz.isAgg43 rfl f11 (by omega)) ?_
   refine zp (o_iaddrP (4) Tryz.underlying166 Tryz.sizeOf43 rfl rfl (by omega) (by omega)) ?_
   refine wl_r (o_ldU Tryz.isAgg43 rfl f11 (by omega)) ?_
   refine za rfl (za rfl ?_)
   refine wl_nild ?_
   refine rk_seq ?_
   refine rk_drawo (id := 18) (none) [0, 1, 0, 4, 0, 24, 40, 0, 160, 320, 514, 0, 0, 4096, 10240, 0, 32768, 0, 131072, 327680, 540672, 1049600, 0, 4194304, 8388608, 18874368, 0, 67108864, 134217728, 301989888, 1073741823] [0, 1, 0, 4, 0, 28, 60, 0, 188, 508, 1023, 0, 0, 4096, 14336, 0, 32768, 0, 131072, 491520, 1046528, 2097151, 0, 4194304, 12582912, 33554431, 0, 67108864, 201326592, 536870911, 1073741823] 296 296 [0, 1, 2, 4, 7, 11, 12, 13, 14, 15, 16, 17, 18, 19, 20, 22, 23, 24, 26, 27, 28, 3, 5, 6, 8, 9, 10, 21, 25, 29, 30] [(.p, 0), (.s, 1), (.p, 2), (.p, 4), (.p, 7), (.p, 11), (.p, 12), (.s, 13), (.p, 14), (.p, 15), (.p, 16), (.p, 17), (.s, 18), (.p, 19), (.p, 20), (.p, 22), (.p, 23), (.s, 24), (.p, 26), (.p, 27), (.s, 28), (.c, 3), (.c, 5), (.p, 6), (.c, 8), (.p, 9), (.p, 10), (.p, 21), (.p, 25), (.p, 29), (.p, 30)] (by kernel_rfl) (by kernel_rfl) (by kernel_rfl) (by kernel_rfl) (by kernel_rfl) ?_
   dsimp only [inOrder, nthOp]
   replace hw := hw.drew
   replace f11 := f11.d
   replace f6 := f6.d
   replace f := f.d
   replace f2 := f2.d
   replace f4 := f4.d
   refine zp (o_iaddrP (7) Tryz.underlying166 Tryz.sizeOf43 rfl rfl (by omega) (by omega)) ?_
   refine wl_s (fun _ hk => (o_ldU Tryz.isAgg43 rfl (f11.u (below_of_grown_none hk)) h7)) ?_
   refine zm rfl (zm rfl (zm rfl (zm rfl ?_)))
   refine zp (o_iaddrP (5) Tryz.underlying166 Tryz.sizeOf43 rfl rfl (by omega) (by omega)) ?_
   refine wl_s (fun _ hk => (o_ldU Tryz.isAgg43 rfl (f11.u (below_of_grown_none hk)) h5)) ?_
   refine zp (o_andU rfl rfl) ?_
   refine zm rfl ?_
   refine zp (o_notU rfl) ?_
   refine zp (o_iaddrP (6) Tryz.underlying166 Tryz.sizeOf43 rfl rfl (by omega) (by omega)) ?_
   refine wl_s (fun _ hk => (o_ldU Tryz.isAgg43 rfl (f11.u (below_of_grown_none hk)) h6)) ?_
   refine zp (o_andU rfl rfl) ?_
   refine zp (o_xorU rfl rfl) ?_
   refine zm rfl ?_
   refine zp (o_iaddrP (i) Tryz.underlying197 Tryz.sizeOf43 rfl rfl rfl (by omega)) ?_
   refine wl_s (fun _ hk => (o_ldU Tryz.isAgg43 rfl (f.u (below_of_grown_none hk)) hik)) ?_
   refine zm rfl ?_
   refine zp (o_iaddrP (i) Tryz.underlying197 Tryz.sizeOf43 rfl rfl rfl (by omega)) ?_
   refine wl_s (fun _ hk => (o_ldU Tryz.isAgg43 rfl (f6.u (below_of_grown_none hk)) hiW)) ?_
   refine wl_call rfl (C_refrot _ (by omega) (by omega)) ?_ (hq := .inr fun _ _ h => grown_of_below h.2 _)
   rintro v93 w93 ⟨rfl, b93⟩
   simp only [drew_size] at b93
   have s93 := b93.size
   simp only [drew_size] at s93
   replace hw := hw.trans (b93.mono hw.size)
   replace f4 := f4.u b93
   replace f2 := f2.u b93
   replace f := f.u b93
   replace f6 := f6.u b93
   replace f11 := f11.u b93
   refine wl_call rfl (C_refrot _ (by omega) (by omega)) ?_ (hq := .inr fun _ _ h => grown_of_below h.2 _)
   rintro v95 w95 ⟨rfl, b95⟩
   have s95 := b95.size
   replace hw := hw.trans (b95.mono hw.size)
   replace f11 := f11.u b95
   replace f6 := f6.u b95
   replace f := f.u b95
   replace f2 := f2.u b95
   replace f4 := f4.u b95
   refine zp (o_xorU rfl rfl) ?_
   refine wl_call rfl (C_refrot _ (by omega) (by omega)) ?_ (hq := .inr fun _ _ h => grown_of_below h.2 _)
   rintro v98 w98 ⟨rfl, b98⟩
   have s98 := b98.size
   replace hw := hw.trans (b98.mono hw.size)
   replace f4 := f4.u b98
   replace f2 := f2.u b98
   replace f := f.u b98
   replace f6 := f6.u b98
   replace f11 := f11.u b98
   refine zp (o_xorU rfl rfl) ?_
   refine zp (o_addU rfl rfl) ?_
   refine zp (o_addU rfl rfl) ?_
   refine zp (o_addU rfl rfl) ?_
   refine zp (o_addU rfl rfl) ?_
   refine za rfl ?_
   obtain ⟨T1, hT1⟩ : ∃ T1, sl[7] + (rotU sl[4] (-14) ^^^ rotU sl[4] (-18) ^^^ rotU sl[4] (-41)) + (sl[4] &&& sl[5] ^^^ ~~~sl[4] &&& sl[6]) + kl[i] + W[i] = T1 := ⟨_, rfl⟩
   rw [hT1]
   refine wl_nild ?_
   refine rk_seq ?_
   refine rk_drawo (id := 19) (none) [0, 1, 0, 6, 10, 0, 40, 80, 0, 0, 512, 1280, 0, 0, 8192, 20480, 34816, 0, 131072, 0, 524288, 1310720, 2162688, 4194432, 16777215] [0, 1, 0, 7, 15, 0, 47, 127, 0, 0, 512, 1792, 0, 0, 8192, 28672, 65280, 0, 131072, 0, 524288, 1966080, 4194048, 8388607, 16777215] 74 74 [0, 2, 5, 8, 9, 10, 11, 12, 13, 14, 15, 16, 17, 18, 19, 20, 21, 22, 1, 3, 4, 6, 7, 23, 24] [(.p, 0), (.p, 2), (.p, 5), (.p, 8), (.p, 9), (.s, 10), (.p, 11), (.p, 12), (.p, 13), (.s, 14), (.p, 15), (.p, 16), (.p, 17), (.s, 18), (.p, 19), (.s, 20), (.p, 21), (.p, 22), (.c, 1), (.c, 3), (.p, 4), (.c, 6), (.p, 7), (.p, 23), (.p, 24)] (by kernel_rfl) (by kernel_rfl) (by kernel_rfl) (by kernel_rfl) (by kernel_rfl) ?_
   dsimp only [inOrder, nthOp]
   replace hw := hw.drew
   replace f11 := f11.d
   replace f6 := f6.d
   replace f := f.d
   replace f2 := f2.d
   replace f4 := f4.d
   refine zm rfl (zm rfl (zm rfl (zm rfl ?_)))
   refine zp (o_iaddrP (1) Tryz.underlying166 Tryz.sizeOf43 rfl rfl (by omega) (by omega)) ?_
   refine wl_s (fun _ hk => (o_ldU Tryz.isAgg43 rfl (f11.u (below_of_grown_none hk)) h1)) ?_
   refine zp (o_andU rfl rfl) ?_
   refine zm rfl ?_
   refine zp (o_iaddrP (2) Tryz.underlying166 Tryz.sizeOf43 rfl rfl (by omega) (by omega)) ?_
   refine wl_s (fun _ hk => (o_ldU Tryz.isAgg43 rfl (f11.u (below_of_grown_none hk)) h2)) ?_
   refine zp (o_andU rfl rfl) ?_
   refine zp (o_xorU rfl rfl) ?_
   refine zp (o_iaddrP (1) Tryz.underlying166 Tryz.sizeOf43 rfl rfl (by omega) (by omega)) ?_
   refine wl_s (fun _ hk => (o_ldU Tryz.isAgg43 rfl (f11.u (below_of_grown_none hk)) h1)) ?_
   refine zp (o_iaddrP (2) Tryz.underlying166 Tryz.sizeOf43 rfl rfl (by omega) (by omega)) ?_
   refine wl_s (fun _ hk => (o_ldU Tryz.isAgg43 rfl (f11.u (below_of_grown_none hk)) h2)) ?_
   refine zp (o_andU rfl rfl) ?_
   refine zp (o_xorU rfl rfl) ?_
   refine wl_call rfl (C_refrot _ (by omega) (by omega)) ?_ (hq := .inr fun _ _ h => grown_of_below h.2 _)
   rintro v121 w121 ⟨rfl, b121⟩
   simp only [drew_size] at b121
   have s121 := b121.size
   simp only [drew_size] at s121
   replace hw := hw.trans (b121.mono hw.size)
   replace f4 := f4.u b121
   replace f2 := f2.u b121
   replace f := f.u b121
   replace f6 := f6.u b121
   replace f11 := f11.u b121
   refine wl_call rfl (C_refrot _ (by omega) (by omega)) ?_ (hq := .inr fun _ _ h => grown_of_below h.2 _)
   rintro v123 w123 ⟨rfl, b123⟩
   have s123 := b123.size
   replace hw := hw.trans (b123.mono hw.size)
   replace f11 := f11.u b123
   replace f6 := f6.u b123
   replace f := f.u b123
   replace f2 := f2.u b123
   replace f4 := f4.u b123
   refine zp (o_xorU rfl rfl) ?_
   refine wl_call rfl (C_refrot _ (by omega) (by omega)) ?_ (hq := .inr fun _ _ h => grown_of_below h.2 _)
   rintro v126 w126 ⟨rfl, b126⟩
   have s126 := b126.size
   replace hw := hw.trans (b126.mono hw.size)
   replace f4 := f4.u b126
   replace f2 := f2.u b126
   replace f := f.u b126
   replace f6 := f6.u b126
   replace f11 := f11.u b126
   refine zp (o_xorU rfl rfl) ?_
   refine zp (o_addU rfl rfl) ?_
   refine za rfl ?_
   obtain ⟨T2, hT2⟩ : ∃ T2, (rotU sl[0] (-28) ^^^ rotU sl[0] (-34) ^^^ rotU sl[0] (-39)) + (sl[0] &&& sl[1] ^^^ sl[0] &&& sl[2] ^^^ sl[1] &&& sl[2]) = T2 := ⟨_, rfl⟩
   rw [hT2]
   refine wl_nild ?_
   refine rk_region (zm rfl (zm rfl ?_))
   refine zp (o_addU rfl rfl) ?_
   refine zm rfl ?_
   refine zp (o_iaddrP (1) Tryz.underlying166 Tryz.sizeOf43 rfl rfl (by omega) (by omega)) ?_
   refine wl_r (o_ldU Tryz.isAgg43 rfl f11 (by omega)) ?_
   refine zp (o_iaddrP (2) Tryz.underlying166 Tryz.sizeOf43 rfl rfl (by omega) (by omega)) ?_
   refine wl_r (o_ldU Tryz.isAgg43 rfl f11 (by omega)) ?_
   refine zp (o_iaddrP (3) Tryz.underlying166 Tryz.sizeOf43 rfl rfl (by omega) (by omega)) ?_
   refine wl_r (o_ldU Tryz.isAgg43 rfl f11 (by omega)) ?_
   refine zm rfl ?_
   refine zp (o_addU rfl rfl) ?_
   refine zm rfl ?_
   refine zp (o_iaddrP (5) Tryz.underlying166 Tryz.sizeOf43 rfl rfl (by omega) (by omega)) ?_
   refine wl_r (o_ldU Tryz.isAgg43 rfl f11 (by omega)) ?_
   refine zp (o_iaddrP (6) Tryz.underlying166 Tryz.sizeOf43 rfl rfl (by omega) (by omega)) ?_
   refine wl_r (o_ldU Tryz.isAgg43 rfl f11 (by omega)) ?_
   refine zp (o_buildga [_, _, _, _, _, _, _, _] Tryz.underlying166 Tryz.sizeOf43 Tryz.zeroValue166 (by rfl) (by rfl) rfl (by rfl) (by rfl) (fun _ => by kernel_rfl)) ?_
   obtain ⟨nl, hnl⟩ : ∃ nl, [T1 + T2, sl[0], sl[1], sl[2], sl[3] + T1, sl[4], sl[5], sl[6]] = nl := ⟨_, rfl⟩
   have hn8 : nl.length = 8 := by rw [← hnl]; rfl
   have hns : stOf nl = rnds kl W (i + 1) s0 := by rw [← hnx, stOf_eq hsl, ← hnl, ← hT1, ← hT2]; rfl
   rw [show (#[Value.int .u64 ((T1 + T2).toNat : Int), Value.int .u64 (sl[0].toNat : Int), Value.int .u64 (sl[1].toNat : Int), Value.int .u64 (sl[2].toNat : Int), Value.int .u64 ((sl[3] + T1).toNat : Int), Value.int .u64 (sl[4].toNat : Int), Value.int .u64 (sl[5].toNat : Int), Value.int .u64 (sl[6].toNat : Int)] : Array Value) = (vU nl).toArray from by rw [← hnl]; rfl]
   clear hnl hT1 hT2
   refine wl_stUa Tryz.sizeOf166 rfl f11 rfl hn8 hsl ?_
   rintro w_2 f_1 g_1 e_1
   have s_1 := g_1.size
   replace hw := hw.trans (below_of_grownBy g_1.g hw.size (by omega))
   replace f6 := f6.k g_1.g (ap_some (by omega))
   replace f := f.k g_1.g (ap_some (by omega))
   replace f2 := f2.k g_1.g (ap_some (by omega))
   replace f4 := f4.k g_1.g (ap_some (by omega))
   clear f11
   refine wl_nil ?_
   refine rk_blk ?_
   refine rk_region (zm rfl ?_)
   refine zp (o_add rfl rfl (by omega) (by omega)) ?_
   refine za rfl (wl_nil ?_)
   exact rk_againf (Fr.le_of (by kernel_rfl) (by kernel_rfl) (by repeat' constructor)) ⟨i + 1, (i : Int) + 1, nl, rfl, by omega, by omega, rfl, hn8, hns, f_1, f6, f, f2, f4, by omega, hw⟩ (by omega)
  ·refine rk_exit rfl ?_
   obtain rfl : i = 80 := by omega
   exact rk_tof hj (Fr.le_of (by kernel_rfl) (by kernel_rfl) (by repeat' constructor)) ⟨sl, rfl, hsl, hss.trans hR, f11, f6, f, f2, f4, hsz7, hw⟩
 clear hw f_1 f6 f f2 f4
 rintro fr w7 ⟨sl, rfl, hsl, hss, f11, f6, f, f2, f4, hsz7, hw⟩
 have shw7 := hw.size
 have hRs : R.list = sl := by rw [← hss]; exact list_stOf hsl
 have hrz : r = List.zipWith (· + ·) sl l := by
  rw [hrr, hRs]; exact zip_comm _ _
 first | refine zf ?_ | refine zg ?_
 refine rk_seq (zs (za rfl (wl_nil (rk_block ?_))))
 refine rk_joinf (fun fb fr w8 => fr = [] ++ fb.drop 1 ∧ Blk w8 g11 166 (vU r) ∧ Blk w8 g4 166 (vU (List.replicate 8 0)) ∧ w_1.heap.size ≤ w8.heap.size ∧ Below w.heap.size w w8) ?_ (fun ks hj => ?_)
 rotate_left
 ·refine rk_loopf (fun fb m fr w8 => ∃ (i : Nat) (v : Int) (q : List UInt64), fr = [(17, .int .i64 v)] ++ fb.drop 1 ∧ v = i ∧ i ≤ 8 ∧ m = 8 - i ∧ q = (List.zipWith (· + ·) sl l).take i ++ sl.drop i ∧ Blk w8 g11 166 (vU q) ∧ Blk w8 g2 166 (vU l) ∧ Blk w8 g4 166 (vU (List.replicate 8 0)) ∧ w_1.heap.size ≤ w8.heap.size ∧ Below w.heap.size w w8) (n := 8) (Fr.le_of (by kernel_rfl) (by kernel_rfl) (by repeat' constructor)) ⟨0, _, _, rfl, rfl, by omega, rfl, rfl, f11, f2, f4, by omega, hw⟩ ?_
  clear hw f11 f6 f f2 f4
  rintro m fr w8 ⟨i, v, q, rfl, rfl, hi, rfl, hq, f11, f2, f4, hsz8, hw⟩
  have shw8 := hw.size
  have hql : q.length = 8 := by
   rw [hq, List.length_append, List.length_take, List.length_zipWith, List.length_drop]; omega
  first | refine zf ?_ | refine zg ?_
  refine rk_seq (zs (zm rfl ?_))
  refine zp (o_lt rfl rfl) ?_
  refine wl_nil ?_
  refine rk_if rfl (fun h163 => ?_) (fun h163 => ?_)
  ·have hil : i < l.length := by omega
   refine rk_skip (rk_seq (rk_block ?_))
   refine rk_draw (id := 24) (none) [0, 0, 2, 4, 0, 16, 32, 72, 255, 511] [0, 0, 2, 6, 0, 16, 48, 126, 255, 511] 512 0 [(.p, 0), (.p, 1), (.p, 2), (.r, 3), (.p, 4), (.p, 5), (.r, 6), (.p, 7), (.p, 8), (.l, 9)] (by kernel_rfl) (by kernel_rfl) (by kernel_rfl) (by kernel_rfl) (by kernel_rfl) ?_
   replace hw := hw.drew
   replace f4 := f4.d
   replace f2 := f2.d
   replace f11 := f11.d
   refine zm rfl (zm rfl ?_)
   refine zp (o_iaddrP (i) Tryz.underlying166 Tryz.sizeOf43 rfl rfl rfl (by omega)) ?_
   refine wl_r (o_ldU Tryz.isAgg43 rfl f11 (by omega)) ?_
   refine zm rfl ?_
   refine zp (o_iaddrP (i) Tryz.underlying166 Tryz.sizeOf43 rfl rfl rfl (by omega)) ?_
   refine wl_r (o_ldU Tryz.isAgg43 rfl f2 (by omega)) ?_
   refine zp (o_addU rfl rfl) ?_
   refine zp (o_iaddrP (i) Tryz.underlying166 Tryz.sizeOf43 rfl rfl rfl (by omega)) ?_
   refine wl_stU Tryz.sizeOf43 rfl f11 rfl (by omega) ?_
   rintro w_2 f g_1 e_1
   simp only [drew_size] at e_1
   have s_1 := g_1.size
   simp only [drew_size] at s_1
   replace hw := hw.trans (below_of_grownBy g_1.g hw.size (by omega))
   replace f2 := f2.k g_1.g (ap_some (by omega))
   replace f4 := f4.k g_1.g (ap_some (by omega))
   clear f11
   refine wl_nild ?_
   refine rk_blk ?_
   refine rk_region (zm rfl ?_)
   refine zp (o_add rfl rfl (by omega) (by omega)) ?_
   refine za rfl (wl_nil ?_)
   exact rk_againf (Fr.le_of (by kernel_rfl) (by kernel_rfl) (by repeat' constructor)) ⟨i + 1, (i : Int) + 1, _, rfl, by omega, by omega, rfl, zip_next hq (by omega) (by omega) hil, f, f2, f4, by omega, hw⟩ (by omega)
  ·refine rk_exit rfl ?_
   obtain rfl : i = 8 := by omega
   rw [List.take_of_length_le (by rw [List.length_zipWith]; omega), List.drop_of_length_le (by omega), List.append_nil, ← hrz] at hq
   subst hq
   exact rk_tof hj (Fr.le_of (by kernel_rfl) (by kernel_rfl) (by repeat' constructor)) ⟨rfl, f11, f4, hsz8, hw⟩
 clear hw f11 f6 f f2 f4
 rintro fr w8 ⟨rfl, f11, f4, hsz8, hw⟩
 have shw8 := hw.size
 first | refine zf ?_ | refine zg ?_
 refine zs ?_
 refine wl_r (o_ldUa Tryz.isAgg166 Tryz.sizeOf166 rfl f11 hr8) ?_
 refine wl_stUa Tryz.sizeOf166 rfl f4 rfl hr8 (by rfl) ?_
 rintro w_2 f g_1 e_1
 have s_1 := g_1.size
 replace hw := hw.trans (below_of_grownBy g_1.g hw.size (by omega))
 replace f11 := f11.k g_1.g (ap_some (by omega))
 clear f4
 refine wl_nil ?_
 refine ret_cell rfl rfl Tryz.isAgg166 Tryz.sizeOf166 f (by rw [vU_length, hr8]) ?_
 exact ⟨rfl, hw⟩
end Go.Proofs.YtahkeoegbjopfaaGreat
namespace Go.Proofs.YtahkeoegbjopfaaGreat
set_option maxRecDepth 100000
open Go.RowKit
theorem C_refbytes {l : List UInt64} {r : List UInt8} (w : World) (hr : bytesU l = r) (hl : l.length = 8) :
  CallsR Tryz.prog 135 [.agg (vU l).toArray] w fun v w' => v = .agg (B8 r).toArray ∧ Below w.heap.size w w' := by
 have hr64 : r.length = 64 := by rw [← hr, bytesU_len]
 refine callsR Tryz.func135 rfl rfl (by kernel_rfl) rfl ?_
 have hw := Below.refl w.heap.size w
 refine zs ?_
 refine wl_boxg _ rfl (by rfl) ?_
 rintro g1 w1 f1 b1 i1 i1_1
 have s1 := b1.size
 replace hw := hw.trans (b1.mono hw.size)
 refine wl_allocB Tryz.underlying46 Tryz.zeroValue46 (by rfl) ?_
 rintro g2 w2 f2 b2 i2 i2_1
 have s2 := b2.size
 replace hw := hw.trans (b2.mono hw.size)
 replace f1 := f1.u b2
 refine wl_nil (zs ?_)
 refine wl_allocB Tryz.underlying46 Tryz.zeroValue46 (by rfl) ?_
 rintro g3 w3 f3 b3 i3 i3_1
 have s3 := b3.size
 replace hw := hw.trans (b3.mono hw.size)
 replace f1 := f1.u b3
 replace f2 := f2.u b3
 refine wl_nil (rk_seq (zs (za rfl (wl_nil (rk_block ?_)))))
 refine rk_joinf (fun fb fr w6 => fr = [] ++ fb.drop 1 ∧ Blk w6 g3 46 (B8 r) ∧ Blk w6 g2 46 (B8 (List.replicate 64 0)) ∧ w3.heap.size ≤ w6.heap.size ∧ Below w.heap.size w w6) ?_ (fun ks hj => ?_)
 rotate_left
 ·refine rk_loopf (fun fb m fr w6 => ∃ (i : Nat) (v : Int) (q : List UInt8), fr = [(4, .int .i64 v)] ++ fb.drop 1 ∧ v = i ∧ i ≤ 64 ∧ m = 64 - i ∧ q = (bytesU l).take i ++ List.replicate (64 - i) 0 ∧ Blk w6 g3 46 (B8 q) ∧ Blk w6 g1 166 (vU l) ∧ Blk w6 g2 46 (B8 (List.replicate 64 0)) ∧ w3.heap.size ≤ w6.heap.size ∧ Below w.heap.size w w6) (n := 64) (Fr.le_of (by kernel_rfl) (by kernel_rfl) (by repeat' constructor)) ⟨0, _, _, rfl, rfl, by omega, rfl, rfl, f3, f1, f2, Nat.le_refl _, hw⟩ ?_
  clear hw f2 f1 f3
  rintro m fr w6 ⟨i, v, q, rfl, rfl, hi, rfl, hq, f3, f1, f2, hsz, hw⟩
  have shw := hw.size
  have hql : q.length = 64 := by
   rw [hq, List.length_append, List.length_take, bytesU_len, List.length_replicate]; omega
  first | refine zf ?_ | refine zg ?_
  refine rk_seq (zs (zm rfl ?_))
  refine zp (o_lt rfl rfl) ?_
  refine wl_nil ?_
  refine rk_if rfl (fun h6 => ?_) (fun h6 => ?_)
  ·refine rk_skip ?_
   refine rk_seq (rk_block (rk_region (zm rfl (zm rfl ?_))))
   refine zp (o_quo rfl rfl (by omega) (by omega) (by omega)) ?_
   refine zp (o_iaddrP (i / 8) Tryz.underlying166 Tryz.sizeOf43 rfl rfl (by omega) (by omega)) ?_
   refine wl_r (o_ldU Tryz.isAgg43 rfl f1 (by omega)) ?_
   refine zm rfl ?_
   refine zp (o_rem rfl rfl (by omega) (by omega)) ?_
   refine zp (o_mul rfl rfl (by omega) (by omega)) ?_
   refine zp (o_sub rfl rfl (by omega) (by omega)) ?_
   refine zp (o_convu64 (src := 3) (dst := 102) Tryz.underlying3 Tryz.underlying102 rfl (by omega) (by omega)) ?_
   refine zp (o_shrU rfl rfl (by omega) (by omega)) ?_
   refine zp (o_convU8 (src := 43) (dst := 5) Tryz.underlying43 Tryz.underlying5 rfl) ?_
   refine zp (o_iaddrP (i) Tryz.underlying46 Tryz.sizeOf5 rfl rfl rfl (by omega)) ?_
   refine wl_stB Tryz.sizeOf5 rfl f3 rfl (by omega) ?_
   rintro w_1 f g e
   have s := g.size
   replace hw := hw.trans (below_of_grownBy g.g hw.size (by omega))
   replace f2 := f2.k g.g (ap_some (by omega))
   replace f1 := f1.k g.g (ap_some (by omega))
   clear f3
   refine wl_nil ?_
   refine rk_blk ?_
   refine rk_region (zm rfl ?_)
   refine zp (o_add rfl rfl (by omega) (by omega)) ?_
   refine za rfl (wl_nil ?_)
   rw [show (56 - 8 * ((i : Int) % 8)).toNat = 56 - 8 * (i % 8) by omega] at f
   exact rk_againf (Fr.le_of (by kernel_rfl) (by kernel_rfl) (by repeat' constructor)) ⟨i + 1, (i : Int) + 1, _, rfl, by omega, by omega, rfl, bytes_next (by omega) hq (by omega), f, f1, f2, by omega, hw⟩ (by omega)
  ·refine rk_exit rfl ?_
   obtain rfl : i = 64 := by omega
   rw [List.take_of_length_le (by rw [bytesU_len]; omega), Nat.sub_self, List.replicate_zero, List.append_nil, hr] at hq
   subst hq
   exact rk_tof hj (Fr.le_of (by kernel_rfl) (by kernel_rfl) (by repeat' constructor)) ⟨rfl, f3, f2, hsz, hw⟩
 clear hw f2 f1 f3
 rintro fr w6 ⟨rfl, f3, f2, hsz, hw⟩
 have shw := hw.size
 first | refine zf ?_ | refine zg ?_
 refine zs ?_
 refine wl_r (o_ldBa Tryz.isAgg46 Tryz.sizeOf46 rfl f3 hr64) ?_
 refine wl_stBa Tryz.sizeOf46 rfl f2 rfl hr64 (by rfl) ?_
 rintro w_1 f g e
 have s := g.size
 replace hw := hw.trans (below_of_grownBy g.g hw.size (by omega))
 replace f3 := f3.k g.g (ap_some (by omega))
 clear f2
 refine wl_nil ?_
 refine ret_cell rfl rfl Tryz.isAgg46 Tryz.sizeOf46 f (by rw [B8_length, hr64]) ?_
 exact ⟨rfl, hw⟩
theorem C_refjoin {A : Option Addr} {L : List By} {r : By} {n c : Nat} (w : World) (hK : RKb w A L) (hr : L.flatten = r) (hn : n = L.length) (hl : L.length ≤ 40) (hl2 : ∀ x ∈ L, x.length ≤ 4000) :
  CallsR Tryz.prog 138 [.slice A n c] w fun v w' => ∃ A' c', v = .slice A' r.length c' ∧ OwnH w' w.heap.size w'.heap.size A' c' r ∧ Below w.heap.size w w' := by
 subst hn
 have hrl : r.length ≤ 160000 := by
  have := flatten_le L 4000 hl2; rw [hr] at this; omega
 refine callsR Tryz.func138 rfl rfl (by kernel_rfl) rfl ?_
 have hw := Below.refl w.heap.size w
 refine zs (za rfl (wl_nil (zs (za rfl (wl_nil (rk_seq (zs (za rfl (wl_nil (rk_block ?_))))))))))
 refine rk_joinf (fun fb fr w3 => ∃ A' c', fr = [(3, .slice A' r.length c')] ++ fb.drop 2 ∧ OwnH w3 w.heap.size w3.heap.size A' c' r ∧ Below w.heap.size w w3) ?_ (fun ks hj => ?_)
 rotate_left
 ·refine rk_loopf (fun fb m fr w3 => ∃ (i : Nat) (v : Int) (A' : Option Addr) (bs : By) (c' : Nat), fr = [(4, .int .i64 v), (3, .slice A' bs.length c')] ++ fb.drop 2 ∧ v = i ∧ i ≤ L.length ∧ m = L.length - i ∧ bs = (L.take i).flatten ∧ OwnH w3 w.heap.size w3.heap.size A' c' bs ∧ Below w.heap.size w w3) (n := L.length) (Fr.le_of (by kernel_rfl) (by kernel_rfl) (by repeat' constructor)) ⟨0, _, none, [], 0, rfl, rfl, by omega, rfl, rfl, OwnH.nil_, hw⟩ ?_
  clear hw
  rintro m fr w3 ⟨i, v, A', bs, c', rfl, rfl, hi, rfl, hbs, fo, hw⟩
  have shw := hw.size
  have h1 := flatten_take_le L i
  rw [hr, ← hbs] at h1
  first | refine zf ?_ | refine zg ?_
  refine rk_seq (zs (zm rfl (zm rfl ?_)))
  refine zp (o_len (t := 164) Tryz.underlying164 rfl) ?_
  refine zp (o_lt rfl rfl) ?_
  refine wl_nil ?_
  refine rk_if rfl (fun h8 => ?_) (fun h8 => ?_)
  ·have hil : i < L.length := by omega
   have h2 := hl2 _ (List.getElem_mem hil)
   refine rk_skip (rk_seq (rk_block (rk_region (zm rfl (zm rfl (zm rfl ?_))))))
   refine zp (o_iaddrA1 (i) Tryz.underlying164 Tryz.sizeOf39 rfl rfl rfl (hK.some_ (by omega)) (by omega)) ?_
   refine wl_ldKb rfl hK hw (by omega) ?_
   rintro A115 c115 f15 i15
   refine wl_appB Tryz.u8 rfl fo rfl rfl (f15.u hw) rfl (by omega) hw.size ?_
   rintro A16 c16 w16 f16 g16 b16 i16
   have qf16 := f16.cap
   have s16 := g16.size
   replace hw := hw.trans (b16.mono (by omega))
   clear fo
   refine za rfl (wl_nil ?_)
   refine rk_blk ?_
   refine rk_region (zm rfl ?_)
   refine zp (o_add rfl rfl (by omega) (by omega)) ?_
   refine za rfl (wl_nil ?_)
   exact rk_againf (Fr.le_of (by kernel_rfl) (by kernel_rfl) (by repeat' constructor)) ⟨i + 1, (i : Int) + 1, _, _, _, rfl, by omega, by omega, rfl, by rw [flatten_take L i hil, hbs], f16, hw⟩ (by omega)
  ·refine rk_exit rfl ?_
   obtain rfl : i = L.length := by omega
   rw [List.take_length, hr] at hbs
   subst hbs
   exact rk_tof hj (Fr.le_of (by kernel_rfl) (by kernel_rfl) (by repeat' constructor)) ⟨A', c', rfl, fo, hw⟩
 clear hw
 rintro fr w3 ⟨A', c', rfl, fo, hw⟩
 have shw := hw.size
 first | refine zf ?_ | refine zg ?_
 refine zs (zm rfl (za rfl (wl_nil ?_)))
 refine ret1 rfl rfl ?_
 exact ⟨A', c', rfl, fo, hw⟩
theorem C_refrun {l : List UInt64} {A : Option Addr} {b : By} {r : List UInt64} {n c : Nat} (w : World) (hp : Rd w A b) (hr : runU l (padU b) = r) (hl : l.length = 8) (hn : n = b.length) (hbl : b.length ≤ 200000) :
  CallsR Tryz.prog 136 [.agg (vU l).toArray, .slice A n c] w fun v w' => v = .agg (vU r).toArray ∧ Below w.heap.size w w' := by
 subst hn
 have hr8 : r.length = 8 := by rw [← hr]; exact runU_len _ hl
 obtain ⟨M, hM⟩ := padU_mul b
 obtain ⟨p, hpe⟩ : ∃ p, padU b = p := ⟨_, rfl⟩
 have hpl2 : p.length ≤ 300000 := by rw [← hpe, padU_len]; have := zeros_lt b.length; omega
 rw [hpe] at hM hr
 have hr2 : (List.range M).foldl (fun s i => pieceU s (chunkB p i)) l = r := by
  rw [← hr]; unfold runU; rw [hM, Nat.mul_div_cancel_left _ (by decide)]
 refine callsR Tryz.func136 rfl rfl (by kernel_rfl) rfl ?_
 have hw := Below.refl w.heap.size w
 refine zs ?_
 refine wl_boxg _ rfl (by rfl) ?_
 rintro g2 w2 f2 b2 i2 i2_1
 have s2 := b2.size
 replace hw := hw.trans (b2.mono hw.size)
 refine wl_allocU Tryz.underlying166 Tryz.zeroValue166 (by rfl) ?_
 rintro g4 w4 f4 b4 i4 i4_1
 have s4 := b4.size
 replace hw := hw.trans (b4.mono hw.size)
 replace f2 := f2.u b4
 refine wl_nil (zs (zm rfl ?_))
 refine wl_call rfl (C_refPad _ (hp.u hw) hpe rfl (by omega)) ?_
 rintro v8 w8 ⟨A8, ⟨c8, ⟨rfl, ⟨f8, b8⟩⟩⟩⟩
 have qf8 := f8.cap
 have s8 := b8.size
 replace hw := hw.trans (b8.mono hw.size)
 replace f2 := f2.u b8
 replace f4 := f4.u b8
 refine za rfl (wl_nil (rk_seq (zs (za rfl (wl_nil (rk_block ?_))))))
 refine rk_joinf (fun fb fr w3 => fr = [] ++ fb.drop 1 ∧ Blk w3 g2 166 (vU r) ∧ Blk w3 g4 166 (vU (List.replicate 8 0)) ∧ w8.heap.size ≤ w3.heap.size ∧ Below w.heap.size w w3) ?_ (fun ks hj => ?_)
 rotate_left
 ·refine rk_loopf (fun fb m fr w3 => ∃ (k j : Nat) (v : Int) (q : List UInt64), fr = [(6, .int .i64 v)] ++ fb.drop 1 ∧ v = j ∧ j = 128 * k ∧ k ≤ M ∧ m = M - k ∧ q.length = 8 ∧ q = (List.range k).foldl (fun s i => pieceU s (chunkB p i)) l ∧ Blk w3 g2 166 (vU q) ∧ Blk w3 g4 166 (vU (List.replicate 8 0)) ∧ OwnH w3 w4.heap.size w8.heap.size A8 c8 p ∧ w8.heap.size ≤ w3.heap.size ∧ Below w.heap.size w w3) (n := M) (Fr.le_of (by kernel_rfl) (by kernel_rfl) (by repeat' constructor)) ⟨0, 0, _, l, rfl, rfl, rfl, by omega, rfl, hl, rfl, f2, f4, f8, Nat.le_refl _, hw⟩ ?_
  clear hw f2 f4 f8
  rintro m fr w3 ⟨k, j, v, q, rfl, rfl, hj, hk, rfl, hql, hq, f2, f4, f8, hsz, hw⟩
  have shw := hw.size
  first | refine zf ?_ | refine zg ?_
  refine rk_seq (zs (zm rfl (zm rfl ?_)))
  refine zp (o_len (t := 39) Tryz.underlying39 rfl) ?_
  refine zp (o_lt rfl rfl) ?_
  refine wl_nil ?_
  refine rk_if rfl (fun h12 => ?_) (fun h12 => ?_)
  ·obtain ⟨r1, h1⟩ : ∃ r1, pieceU q ((p.drop j).take (j + 128 - j)) = r1 := ⟨_, rfl⟩
   have hr18 : r1.length = 8 := by rw [← h1]; exact pieceU_len _ hql
   have hc128 : ((p.drop j).take (j + 128 - j)).length = 128 := by rw [List.length_take, List.length_drop]; omega
   refine rk_skip (rk_seq (rk_block ?_))
   refine rk_draw (id := 5) (none) [0, 0, 0, 0, 8, 22, 33, 127] [0, 0, 0, 0, 8, 30, 63, 127] 192 0 [(.r, 0), (.p, 1), (.p, 2), (.p, 3), (.p, 4), (.p, 5), (.l, 6), (.l, 7)] (by kernel_rfl) (by kernel_rfl) (by kernel_rfl) (by kernel_rfl) (by kernel_rfl) ?_
   replace hw := hw.drew
   replace f8 := f8.d
   replace f4 := f4.d
   replace f2 := f2.d
   refine wl_r (o_ldUa Tryz.isAgg166 Tryz.sizeOf166 rfl f2 hql) ?_
   refine zm rfl (zm rfl (zm rfl ?_))
   refine zp (o_add rfl rfl (by omega) (by omega)) ?_
   refine wl_slBB Tryz.u8 (j) (j + 128) rfl rfl rfl f8.to_Rd rfl rfl (by omega) (by omega) (by omega) (by omega) ?_
   rintro A20 c20 f20 i20 i20_1
   refine wl_call rfl (C_refpiece _ f20 h1 hql hc128 (by omega)) ?_
   rintro v21 w21 ⟨rfl, b21⟩
   simp only [drew_size] at b21
   have s21 := b21.size
   simp only [drew_size] at s21
   replace hw := hw.trans (b21.mono hw.size)
   replace f20 := f20.u b21
   replace f2 := f2.u b21
   replace f4 := f4.u b21
   replace f8 := f8.u b21
   refine wl_stUa Tryz.sizeOf166 rfl f2 rfl hr18 hql ?_
   rintro w_1 f g e
   have s := g.size
   replace hw := hw.trans (below_of_grownBy g.g hw.size (by omega))
   replace f8 := f8.k g.g (ap_some (by omega))
   replace f4 := f4.k g.g (ap_some (by omega))
   clear f2
   clear f20
   refine wl_nild ?_
   refine rk_blk ?_
   refine rk_region (zm rfl ?_)
   refine zp (o_add rfl rfl (by omega) (by omega)) ?_
   refine za rfl (wl_nil ?_)
   exact rk_againf (Fr.le_of (by kernel_rfl) (by kernel_rfl) (by repeat' constructor)) ⟨k + 1, j + 128, (j : Int) + 128, r1, rfl, by omega, by omega, by omega, rfl, hr18, by
    rw [List.range_succ, List.foldl_append, ← hq, ← h1, hj, show 128 * k + 128 - 128 * k = 128 by omega]; rfl, f, f4, f8, by omega, hw⟩ (by omega)
  ·refine rk_exit rfl ?_
   obtain rfl : k = M := by omega
   rw [hr2] at hq
   subst hq
   exact rk_tof hj (Fr.le_of (by kernel_rfl) (by kernel_rfl) (by repeat' constructor)) ⟨rfl, f2, f4, hsz, hw⟩
 clear hw f2 f4 f8
 rintro fr w3 ⟨rfl, f2, f4, hsz, hw⟩
 have shw := hw.size
 first | refine zf ?_ | refine zg ?_
 refine zs ?_
 refine wl_r (o_ldUa Tryz.isAgg166 Tryz.sizeOf166 rfl f2 hr8) ?_
 refine wl_stUa Tryz.sizeOf166 rfl f4 rfl hr8 (by rfl) ?_
 rintro w_1 f g e
 have s := g.size
 replace hw := hw.trans (below_of_grownBy g.g hw.size (by omega))
 replace f2 := f2.k g.g (ap_some (by omega))
 clear f4
 refine wl_nil ?_
 refine ret_cell rfl rfl Tryz.isAgg166 Tryz.sizeOf166 f (by rw [vU_length, hr8]) ?_
 exact ⟨rfl, hw⟩
theorem C_refSum512 {A : Option Addr} {L : List By} {r : By} {n c : Nat} (w : World) (hK : RKb w A L) (hr : bytesU (runU Sl (padU L.flatten)) = r) (hn : n = L.length) (hL : L.length ≤ 40) (hL2 : ∀ x ∈ L, x.length ≤ 4000) :
  CallsR Tryz.prog 104 [.slice A n c] w fun v w' => v = .agg (B8 r).toArray ∧ Below w.heap.size w w' := by
 subst hn
 obtain ⟨b, hb⟩ : ∃ b, L.flatten = b := ⟨_, rfl⟩
 rw [hb] at hr
 have hbl : b.length ≤ 100000 * 2 := by
  have := flatten_le L 4000 hL2; rw [hb] at this; omega
 obtain ⟨r1, h1⟩ : ∃ r1, runU Sl (padU b) = r1 := ⟨_, rfl⟩
 rw [h1] at hr
 have hS8 : Sl.length = 8 := Sl_len
 have hr8 : r1.length = 8 := by rw [← h1]; exact runU_len _ hS8
 have hr64 : r.length = 64 := by rw [← hr, bytesU_len]
 refine callsR Tryz.func104 rfl rfl (by kernel_rfl) rfl ?_
 have hw := Below.refl w.heap.size w
 refine zs ?_
 refine wl_allocB Tryz.underlying46 Tryz.zeroValue46 (by rfl) ?_
 rintro g2 w2 f2 b2 i2 i2_1
 have s2 := b2.size
 replace hw := hw.trans (b2.mono hw.size)
 refine wl_nil (zs ?_)
 refine wl_call rfl (C_refStart _) ?_
 rintro v3 w3 ⟨rfl, b3⟩
 have s3 := b3.size
 replace hw := hw.trans (b3.mono hw.size)
 replace f2 := f2.u b3
 refine zm rfl ?_
 refine wl_call rfl (C_refjoin _ (hK.u hw) hb rfl (by omega) (by omega)) ?_
 rintro v5 w5 ⟨A5, ⟨c5, ⟨rfl, ⟨f5, b5⟩⟩⟩⟩
 have qf5 := f5.cap
 have s5 := b5.size
 replace hw := hw.trans (b5.mono hw.size)
 replace f2 := f2.u b5
 refine wl_call rfl (C_refrun _ f5.to_Rd h1 hS8 rfl (by omega)) ?_
 rintro v6 w6 ⟨rfl, b6⟩
 have s6 := b6.size
 replace hw := hw.trans (b6.mono hw.size)
 replace f2 := f2.u b6
 replace f5 := f5.u b6
 refine wl_call rfl (C_refbytes _ hr hr8) ?_
 rintro v7 w7 ⟨rfl, b7⟩
 have s7 := b7.size
 replace hw := hw.trans (b7.mono hw.size)
 replace f5 := f5.u b7
 replace f2 := f2.u b7
 refine wl_stBa Tryz.sizeOf46 rfl f2 rfl hr64 (by rfl) ?_
 rintro w_1 f g e
 have s := g.size
 replace hw := hw.trans (below_of_grownBy g.g hw.size (by omega))
 replace f5 := f5.k g.g (ap_some (by omega))
 clear f2
 refine wl_nil ?_
 refine ret_cell rfl rfl Tryz.isAgg46 Tryz.sizeOf46 f (by rw [B8_length, hr64]) ?_
 exact ⟨rfl, hw⟩
end Go.Proofs.YtahkeoegbjopfaaGreat
namespace Go.Proofs.YtahkeoegbjopfaaGreat
set_option maxRecDepth 100000
open Go.RowKit
attribute [local irreducible] carryS openS closeS plusS minusS timesS powerS ofS shiftedS restS subS negS mulS powS invS rootS crRoot awayS nearS fplus ckS dS zeroPt mul2S baseS mlF mulPt bytesPt
section
variable {P : Program} {N : Nat} {fr : Fr} {w : World} {ty t : TypeId} {n g : Nat} {x y : Operand} {h : Int} {kl : IntKind}
theorem o_slArrLo2 (k : Nat) (hu : P.underlying t = some (.array n 5)) (hs : ∀ w, (sizeOf 5).run P w = .ok 1 w) (hx : fr.ev x = some (.pointer (some ⟨g, 0, none⟩))) (hy : fr.ev y = some (.int kl h)) (hh : h = (k : Int)) (hk : k < n) : OpV P N fr w (.slice t x (some y) none none) ty (.slice (some ⟨g, k, none⟩) (n - k) (n - k)) w := by
 subst hh
 intro a ha op hop _
 have h1 : ¬ n = k := by omega
 simp [execOp, hop, ha.ev hx, ha.ev hy, Instr.sliceAt, Instr.sureAddr, run_underlying hu, Instr.sliceBounds, Instr.sliceBound, asIntOf, hs, Nat.le_of_lt hk, Addr.add, h1]
 intro e
 rw [e]
end
theorem rd_lo2 {w : World} {g : Nat} {t : TypeId} {c : By} (hB : Blk w g t (B8 c)) (k : Nat) : Rd w (some ⟨g, k, none⟩) (c.drop k) := by
 refine ⟨by rw [B8_length, Nat.mul_one], fun _ => ⟨g, k, rfl, fun j u hj => ?_⟩⟩
 rw [hB.cell]
 unfold B8 at hj ⊢
 rw [List.getElem?_map] at hj ⊢
 rw [← hj, List.getElem?_drop]
def to32 (l : By) : N32 := ⟨(l ++ List.replicate 32 0).take 32, by simp⟩
def h512 (l : By) : By := bytesU (runU Sl (padU l))
def secA (s : N32) : N32 := (to32 (h512 s.1)).put 0 (lo8 ((((to32 (h512 s.1)).at 0).toNat : Int) - ((lo8 ((((to32 (h512 s.1)).at 0).toNat % 8 : Nat) : Int)).toNat : Int)))
def secS (s : N32) : N32 := (secA s).put 31 (lo8 (((lo8 ((((secA s).at 31).toNat % 64 : Nat) : Int)).toNat : Int) + 64))
set_option maxRecDepth 100000 in
set_option maxHeartbeats 1000000 in
theorem C_f6secret {s r : N32} (w : World) (hr : secS s = r) :
  CallsR Tryz.prog 103 [.agg (B8 s.1).toArray] w fun v w' => ∃ A bs c, v = .tuple #[.agg (B8 r.1).toArray, .slice A bs.length c] ∧ OwnH w' w.heap.size w'.heap.size A c bs ∧ bs.length ≤ 64 ∧ Below w.heap.size w w' := by
 have hs := s.2
 obtain ⟨h, hh⟩ : ∃ h, bytesU (runU Sl (padU [s.1].flatten)) = h := ⟨_, rfl⟩
 have hhl : h.length = 64 := by rw [← hh]; exact bytesU_len _
 refine callsR Tryz.func103 rfl rfl (by kernel_rfl) rfl ?_
 have hw := Below.refl w.heap.size w
 refine zs ?_
 refine wl_boxg _ rfl (by rfl) ?_
 rintro g1 w1 f1 b1 i1 i1_1
 have s1 := b1.size
 replace hw := hw.trans (b1.mono hw.size)
 refine wl_allocB Tryz.underlying108 Tryz.zeroValue108 (by rfl) ?_
 rintro g2 w2 f2 b2 i2 i2_1
 have s2 := b2.size
 replace hw := hw.trans (b2.mono hw.size)
 replace f1 := f1.u b2
 refine za rfl (wl_nil (zs ?_))
 refine zp (o_slice_arr (t := 41) Tryz.underlying41 Tryz.sizeOf5 rfl) ?_
 refine wl_litKr1 (by rfl) rfl f1.to_Rd (by omega) (by omega) (by omega) (by rfl) ?_
 rintro A7 w7 f7 b7
 have s7 := b7.size
 replace hw := hw.trans (b7.mono hw.size)
 replace f1 := f1.u b7
 replace f2 := f2.u b7
 refine wl_call rfl (C_refSum512 _ f7 hh (by rfl) (by simp) (by simp; omega)) ?_
 rintro v8 w8 ⟨rfl, b8⟩
 have s8 := b8.size
 replace hw := hw.trans (b8.mono hw.size)
 replace f2 := f2.u b8
 replace f1 := f1.u b8
 replace f7 := f7.u b8
 refine wl_allocB Tryz.underlying46 Tryz.zeroValue46 (by rfl) ?_
 rintro g4 w4 f4 b4 i4 i4_1
 have s4 := b4.size
 replace hw := hw.trans (b4.mono hw.size)
 replace f7 := f7.u b4
 replace f1 := f1.u b4
 replace f2 := f2.u b4
 refine wl_stBa Tryz.sizeOf46 rfl f4 rfl hhl (by rfl) ?_
 rintro w_1 f g e
 have s_1 := g.size
 replace hw := hw.trans (below_of_grownBy g.g hw.size (by omega))
 replace f2 := f2.k g.g (ap_some (by omega))
 replace f1 := f1.k g.g (ap_some (by omega))
 clear f7
 clear f4
 refine wl_nil (zs ?_)
 refine wl_allocB Tryz.underlying108 Tryz.zeroValue108 (by rfl) ?_
 rintro g5 w5 f5 b5 i5 i5_1
 have s5 := b5.size
 replace hw := hw.trans (b5.mono hw.size)
 replace f1 := f1.u b5
 replace f2 := f2.u b5
 replace f := f.u b5
 refine wl_nil (rk_seq ?_)
 refine rk_draw (id := 3) (none) [0, 0, 3] [0, 0, 3] 4 0 [(.p, 0), (.p, 1), (.l, 2)] (by kernel_rfl) (by kernel_rfl) (by kernel_rfl) (by kernel_rfl) (by kernel_rfl) ?_
 replace hw := hw.drew
 replace f := f.d
 replace f2 := f2.d
 replace f1 := f1.d
 replace f5 := f5.d
 refine zp (o_slice_arr (t := 108) Tryz.underlying108 Tryz.sizeOf5 rfl) ?_
 refine zp (o_slArrHi (32) Tryz.underlying46 Tryz.sizeOf5 rfl rfl (by omega) (by omega)) ?_
 refine wl_copy Tryz.u8 (s := h.take 32) rfl rfl (by rw [List.length_take]; omega) (rd_pre f 32) f5 (by rw [B8_length, List.length_replicate]; omega) (fun w11 e1 e2 e3 => ?_)
 rw [spl_all (by rw [B8_length, B8_length, List.length_take, List.length_take, List.length_replicate]; omega), List.take_take, show min 32 32 = 32 from rfl] at e1
 have e32 : h.take 32 = (to32 h).1 := (List.take_append_of_le_length (by omega)).symm
 rw [e32] at e1
 replace hw := hw.trans (below_of_grownBy e2 hw.size (by omega))
 replace f := f.k e2 (ap_some (by omega))
 replace f2 := f2.k e2 (ap_some (by omega))
 clear f1 f5
 replace e3 : w11.heap.size = w5.heap.size := e3
 have hto := (to32 h).2
 refine wl_nild ?_
 refine zs ?_
 refine zp (o_iaddrP (0) Tryz.underlying108 Tryz.sizeOf5 rfl rfl (by omega) (by omega)) ?_
 refine wl_r (o_ldD Tryz.isAgg5 rfl e1 (by omega)) ?_
 refine zp (o_iaddrP (0) Tryz.underlying108 Tryz.sizeOf5 rfl rfl (by omega) (by omega)) ?_
 refine wl_r (o_ldD Tryz.isAgg5 rfl e1 (by omega)) ?_
 refine zp (o_rem8 (8) rfl rfl (by omega) (by omega)) ?_
 refine zp (o_sub8 rfl rfl) ?_
 refine zp (o_iaddrP (0) Tryz.underlying108 Tryz.sizeOf5 rfl rfl (by omega) (by omega)) ?_
 refine wl_stB Tryz.sizeOf5 rfl e1 rfl (by omega) ?_
 rintro w_2 f_1 g_1 e_1
 have s_2 := g_1.size
 replace hw := hw.trans (below_of_grownBy g_1.g hw.size (by omega))
 replace f2 := f2.k g_1.g (ap_some (by omega))
 replace f := f.k g_1.g (ap_some (by omega))
 clear e1
 refine wl_nil (zs ?_)
 refine zp (o_iaddrP (31) Tryz.underlying108 Tryz.sizeOf5 rfl rfl (by omega) (by omega)) ?_
 refine wl_r (o_ldD Tryz.isAgg5 rfl f_1 (by simp; omega)) ?_
 refine zp (o_rem8 (64) rfl rfl (by omega) (by omega)) ?_
 refine zp (o_add8 rfl rfl) ?_
 refine zp (o_iaddrP (31) Tryz.underlying108 Tryz.sizeOf5 rfl rfl (by omega) (by omega)) ?_
 refine wl_stB Tryz.sizeOf5 rfl f_1 rfl (by simp; omega) ?_
 rintro w_3 f_2 g_2 e_2
 have s_3 := g_2.size
 replace hw := hw.trans (below_of_grownBy g_2.g hw.size (by omega))
 replace f := f.k g_2.g (ap_some (by omega))
 replace f2 := f2.k g_2.g (ap_some (by omega))
 clear f_1
 refine wl_nil (rk_seq ?_)
 refine rk_drawoB (id := 6) (none) [0, 0, 0, 6, 9, 31] [0, 0, 0, 6, 15, 31] 26 10 [0, 2, 1, 3, 4, 5] [(.s, 0), (.p, 2), (.c, 1), (.c, 3), (.l, 4), (.p, 5)] (by kernel_rfl) (by kernel_rfl) (by kernel_rfl) (by kernel_rfl) (by kernel_rfl) ?_
 dsimp only [inOrder, nthOp]
 replace hw := hw.drew
 replace f2 := f2.d
 replace f := f.d
 replace f_2 := f_2.d
 refine wl_s (fun _ hk => (o_ldBa Tryz.isAgg108 Tryz.sizeOf108 rfl (f_2.u (below_of_ok hk (Nat.le_refl _) (fun _ e => by cases e))) (by simp; omega))) ?_
 refine zp (o_slArrLo2 (32) Tryz.underlying46 Tryz.sizeOf5 rfl rfl (by omega) (by omega)) ?_
 refine wl_litB [] Tryz.u8 Tryz.sizeOf5 Tryz.zeroValue5 (by rfl) rfl rfl (by rfl) (by rfl) (by rfl) ?_
 rintro A25 w25 f25 b25
 simp only [drew_size] at f25
 simp only [drew_size] at b25
 have qf25 := f25.cap
 have s25 := b25.size
 simp only [drew_size] at s25
 replace hw := hw.trans (b25.mono hw.size)
 replace f_2 := f_2.u b25
 replace f := f.u b25
 replace f2 := f2.u b25
 have fh := rd_lo2 f 32
 have hhd : 64 - 32 = (h.drop 32).length := by rw [List.length_drop]; omega
 refine wl_appBm Tryz.u8 rfl f25 (by rfl) rfl fh hhd (by omega) (by omega) ?_ (hq := .inr (.inr (f25.ge_ (by omega))))
 rintro A27 c27 w27 f27 g27 b27
 have qf27 := f27.cap
 have s27 := g27.size
 replace hw := hw.trans (b27.mono (by omega))
 replace f2 := f2.y g27 (by decide)
 replace f := f.y g27 (by decide)
 replace f_2 := f_2.y g27 (by decide)
 clear fh
 clear f25
 refine wl_stBa Tryz.sizeOf108 rfl f2 rfl (by simp; omega) (by rfl) ?_
 rintro w_4 f_1 g_3 e_3
 have s_4 := g_3.size
 replace hw := hw.trans (below_of_grownBy g_3.g hw.size (by omega))
 replace f_2 := f_2.k g_3.g (ap_some (by omega))
 replace f := f.k g_3.g (ap_some (by omega))
 replace f27 := f27.k g_3.g (ap_some (by omega))
 clear f2
 refine za rfl ?_
 refine wl_nild ?_
 have hf : [s.1].flatten = s.1 := by simp
 rw [hf] at hh
 have hrv : r.1 = ((to32 h).1.set 0 (lo8 ((((to32 h).1.getD 0 0).toNat : Int) - ((lo8 ((((to32 h).1.getD 0 0).toNat % 8 : Nat) : Int)).toNat : Int)))).set 31 (lo8 (((lo8 (((((to32 h).1.set 0 (lo8 ((((to32 h).1.getD 0 0).toNat : Int) - ((lo8 ((((to32 h).1.getD 0 0).toNat % 8 : Nat) : Int)).toNat : Int)))).getD 31 0).toNat % 64 : Nat) : Int)).toNat : Int) + 64)) := by
  rw [← hr]; unfold secS secA h512; rw [hh]; rfl
 have fr2 : Blk w_4 g2 108 (B8 r.1) := by rw [hrv]; assumption
 refine ret_any rfl (.cell rfl Tryz.isAgg108 Tryz.sizeOf108 (by assumption) (by first | exact vI10 | exact b32 | exact ptC_len _ | exact frC_len _ | rfl) <| .tmp rfl <| .nil) (by simp) ?_
 exact ⟨A27, [] ++ h.drop 32, c27, rfl, by first | exact f27.base (by omega) (by omega) | assumption, by simp; omega, hw⟩
set_option maxRecDepth 100000 in
theorem C_f6Secret {s r : N32} (w : World) (hr : secS s = r) :
  CallsR Tryz.prog 60 [.agg (B8 s.1).toArray] w fun v w' => v = .agg (B8 r.1).toArray ∧ Below w.heap.size w w' := by
 have hs := s.2
 have hrl := r.2
 refine callsR Tryz.func60 rfl rfl (by kernel_rfl) rfl ?_
 have hw := Below.refl w.heap.size w
 refine zs ?_
 refine wl_boxg _ rfl (by rfl) ?_
 rintro g1 w1 f1 b1 i1 i1_1
 have s1 := b1.size
 replace hw := hw.trans (b1.mono hw.size)
 refine wl_allocB Tryz.underlying108 Tryz.zeroValue108 (by rfl) ?_
 rintro g2 w2 f2 b2 i2 i2_1
 have s2 := b2.size
 replace hw := hw.trans (b2.mono hw.size)
 replace f1 := f1.u b2
 refine wl_nil (zs ?_)
 refine wl_r (o_ldBa Tryz.isAgg41 Tryz.sizeOf41 rfl f1 hs) ?_
 refine wl_call rfl (C_f6secret _ hr) ?_
 rintro v7 w7 ⟨A7, ⟨bs7, ⟨c7, ⟨rfl, ⟨f7, ⟨i7, b7⟩⟩⟩⟩⟩⟩
 have qf7 := f7.cap
 have s7 := b7.size
 replace hw := hw.trans (b7.mono hw.size)
 replace f1 := f1.u b7
 replace f2 := f2.u b7
 refine zm rfl ?_
 refine zp (o_ext20 rfl) ?_
 refine zp (o_ext21 rfl) ?_
 refine wl_allocB Tryz.underlying108 Tryz.zeroValue108 (by rfl) ?_
 rintro g3 w3 f3 b3 i3 i3_1
 have s3 := b3.size
 replace hw := hw.trans (b3.mono hw.size)
 replace f2 := f2.u b3
 replace f1 := f1.u b3
 replace f7 := f7.u b3
 refine wl_stBa Tryz.sizeOf108 rfl f3 rfl hrl (by rfl) ?_
 rintro w_1 f g e
 have s_1 := g.size
 replace hw := hw.trans (below_of_grownBy g.g hw.size (by omega))
 replace f7 := f7.k g.g (ap_some (by omega))
 replace f1 := f1.k g.g (ap_some (by omega))
 replace f2 := f2.k g.g (ap_some (by omega))
 clear f3
 refine za rfl (wl_nil (zs ?_))
 refine wl_r (o_ldBa Tryz.isAgg108 Tryz.sizeOf108 rfl f hrl) ?_
 refine wl_stBa Tryz.sizeOf108 rfl f2 rfl hrl (by rfl) ?_
 rintro w_2 f_1 g_1 e_1
 have s_2 := g_1.size
 replace hw := hw.trans (below_of_grownBy g_1.g hw.size (by omega))
 replace f1 := f1.k g_1.g (ap_some (by omega))
 replace f7 := f7.k g_1.g (ap_some (by omega))
 replace f := f.k g_1.g (ap_some (by omega))
 clear f2
 refine wl_nil ?_
 refine ret_cell rfl rfl Tryz.isAgg108 Tryz.sizeOf108 (by assumption) (by first | exact vI10 | exact b32 | exact ptC_len _ | exact frC_len _ | rfl) ?_
 exact ⟨rfl, hw⟩
set_option maxRecDepth 100000 in
theorem C_f6Key {s n : N32} {b p : Pt} {q : N32 × Int} (w : World) (hn : secS s = n) (hb : baseS = b) (hp : mulPt n b = p) (hq : bytesPt p = q) :
  CallsR Tryz.prog 30 [.agg (B8 s.1).toArray] w fun v w' => v = .agg (B8 q.1.1).toArray ∧ Below w.heap.size w w' := by
 have hs := s.2
 have hq1 := q.1.2
 refine callsR Tryz.func30 rfl rfl (by kernel_rfl) rfl ?_
 have hw := Below.refl w.heap.size w
 refine zs ?_
 refine wl_boxg _ rfl (by rfl) ?_
 rintro g1 w1 f1 b1 i1 i1_1
 have s1 := b1.size
 replace hw := hw.trans (b1.mono hw.size)
 refine wl_allocB Tryz.underlying42 Tryz.zeroValue42 (by rfl) ?_
 rintro g2 w2 f2 b2 i2 i2_1
 have s2 := b2.size
 replace hw := hw.trans (b2.mono hw.size)
 replace f1 := f1.u b2
 refine wl_nil (zs ?_)
 refine wl_r (o_ldBa Tryz.isAgg41 Tryz.sizeOf41 rfl f1 hs) ?_
 refine wl_call rfl (C_f6Secret _ hn) ?_
 rintro v7 w7 ⟨rfl, b7⟩
 have s7 := b7.size
 replace hw := hw.trans (b7.mono hw.size)
 replace f1 := f1.u b7
 replace f2 := f2.u b7
 refine wl_call rfl (C_f5Base _ hb) ?_
 rintro v8 w8 ⟨rfl, b8⟩
 have s8 := b8.size
 replace hw := hw.trans (b8.mono hw.size)
 replace f2 := f2.u b8
 replace f1 := f1.u b8
 refine wl_call rfl (C_f5Mul _ hp) ?_
 rintro v9 w9 ⟨rfl, b9⟩
 have s9 := b9.size
 replace hw := hw.trans (b9.mono hw.size)
 replace f1 := f1.u b9
 replace f2 := f2.u b9
 refine wl_call rfl (C_f5Bytes _ hq) ?_
 rintro v10 w10 ⟨rfl, b10⟩
 have s10 := b10.size
 replace hw := hw.trans (b10.mono hw.size)
 replace f2 := f2.u b10
 replace f1 := f1.u b10
 refine zm rfl ?_
 refine zp (o_ext20 rfl) ?_
 refine zp (o_ext21 rfl) ?_
 refine wl_allocB Tryz.underlying41 Tryz.zeroValue41 (by rfl) ?_
 rintro g3 w3 f3 b3 i3 i3_1
 have s3 := b3.size
 replace hw := hw.trans (b3.mono hw.size)
 replace f1 := f1.u b3
 replace f2 := f2.u b3
 refine wl_stBa Tryz.sizeOf41 rfl f3 rfl hq1 (by rfl) ?_
 rintro w_1 f g e
 have s_1 := g.size
 replace hw := hw.trans (below_of_grownBy g.g hw.size (by omega))
 replace f2 := f2.k g.g (ap_some (by omega))
 replace f1 := f1.k g.g (ap_some (by omega))
 clear f3
 refine za rfl (wl_nil (zs ?_))
 refine wl_r (o_ldBa Tryz.isAgg41 Tryz.sizeOf41 rfl f hq1) ?_
 refine wl_stBa Tryz.sizeOf42 rfl f2 rfl hq1 (by rfl) ?_
 rintro w_2 f_1 g_1 e_1
 have s_2 := g_1.size
 replace hw := hw.trans (below_of_grownBy g_1.g hw.size (by omega))
 replace f1 := f1.k g_1.g (ap_some (by omega))
 replace f := f.k g_1.g (ap_some (by omega))
 clear f2
 refine wl_nil ?_
 refine ret_cell rfl rfl Tryz.isAgg42 Tryz.sizeOf42 (by assumption) (by first | exact vI10 | exact b32 | exact ptC_len _ | exact frC_len _ | rfl) ?_
 exact ⟨rfl, hw⟩
end Go.Proofs.YtahkeoegbjopfaaGreat
namespace Go.Proofs.YtahkeoegbjopfaaGreat
set_option maxRecDepth 100000
open Go.RowKit
attribute [local irreducible] carryS openS closeS plusS minusS timesS powerS ofS shiftedS restS subS negS mulS powS invS rootS crRoot awayS nearS fplus ckS dS zeroPt mul2S baseS mlF mulPt bytesPt secS
set_option maxRecDepth 100000 in
set_option maxHeartbeats 1000000 in
theorem C_f6challenge {r k : N32} {A : Option Addr} {b : By} {n c : Nat} (w : World) (hb : Rd w A b) (hn : n = b.length) (hc : b.length ≤ c) (hc2 : c ≤ maxLen) (hl : b.length ≤ 4000) :
  CallsR Tryz.prog 107 [.agg (B8 r.1).toArray, .agg (B8 k.1).toArray, .slice A n c] w fun v w' => ∃ q : N32, v = .agg (B8 q.1).toArray ∧ Below w.heap.size w w' := by
 subst hn
 have hr := r.2
 have hk := k.2
 obtain ⟨h, hh⟩ : ∃ h, bytesU (runU Sl (padU [r.1, k.1, b].flatten)) = h := ⟨_, rfl⟩
 have hhl : h.length = 64 := by rw [← hh]; exact bytesU_len _
 refine callsR Tryz.func107 rfl rfl (by kernel_rfl) rfl ?_
 have hw := Below.refl w.heap.size w
 refine zs ?_
 refine wl_boxg _ rfl (by rfl) ?_
 rintro g3 w3 f3 b3 i3 i3_1
 have s3 := b3.size
 replace hw := hw.trans (b3.mono hw.size)
 refine wl_boxg _ rfl (by rfl) ?_
 rintro g4 w4 f4 b4 i4 i4_1
 have s4 := b4.size
 replace hw := hw.trans (b4.mono hw.size)
 replace f3 := f3.u b4
 refine wl_allocB Tryz.underlying108 Tryz.zeroValue108 (by rfl) ?_
 rintro g6 w6 f6 b6 i6 i6_1
 have s6 := b6.size
 replace hw := hw.trans (b6.mono hw.size)
 replace f3 := f3.u b6
 replace f4 := f4.u b6
 refine wl_nil (rk_seq ?_)
 refine rk_drawo (id := 1) (none) [0, 0, 0, 7, 8, 0, 63] [0, 0, 0, 7, 15, 0, 63] 120 0 [0, 1, 2] [(.p, 0), (.p, 1), (.p, 2), (.f 7 120 0, 4)] (by kernel_rfl) (by kernel_rfl) (by kernel_rfl) (by kernel_rfl) (by kernel_rfl) ?_
 dsimp only [inOrder, nthOp]
 replace hw := hw.drew
 replace f4 := f4.d
 replace f3 := f3.d
 replace f6 := f6.d
 refine zp (o_slice_arr (t := 41) Tryz.underlying41 Tryz.sizeOf5 rfl) ?_
 refine zp (o_slice_arr (t := 42) Tryz.underlying42 Tryz.sizeOf5 rfl) ?_
 refine zm rfl ?_
 refine wl_conc [⟨3, [], [13], [], fun vs w' lo hi => ∃ (A13 : Option Addr), vs = [.slice A13 3 3] ∧ RKb w' A13 [r.1, k.1, b]⟩, ⟨4, [], [14], [0], fun vs w' lo hi => vs = [.agg (B8 h).toArray]⟩, ⟨5, [], [7], [], fun vs w' lo hi => ∃ (g7 : Nat), vs = [.pointer (some ⟨g7, 0, none⟩)] ∧ Blk w' g7 46 (B8 (List.replicate 64 0)) ∧ lo ≤ g7 ∧ g7 < hi⟩] [0, 1, 2] [0, 0, 0, 7, 8, 0, 63] [0, 0, 0, 7, 15, 0, 63] [6] [(.l, 6)] (by kernel_rfl) (by kernel_rfl) (by kernel_rfl) (by kernel_rfl) ⟨fun _ _ _ _ _ h hb => by obtain ⟨A13, e0, g0⟩ := h; exact ⟨A13, e0, g0.u hb⟩, fun _ _ _ _ _ h _ => h, fun _ _ _ _ _ h hb => by obtain ⟨g7, e0, g0, g1, g2⟩ := h; exact ⟨g7, e0, g0.u hb, g1, g2⟩, trivial⟩ ⟨?_, ?_, ?_, trivial⟩ ?_
 ·intro wI hbI fo T T2 n2
  intro hk
  dsimp only [Item.idx, inOrder, nthOp, List.map, List.zip_cons_cons, List.zip_nil_right, List.cons_append, List.nil_append]
  have shbI := hbI.size
  simp only [drew_size] at shbI
  replace hw := hw.trans (hbI.mono hw.size)
  replace f6 := f6.u hbI
  replace f3 := f3.u hbI
  replace f4 := f4.u hbI
  have hw1 := Below.refl wI.heap.size wI
  refine wl_litKr3 (by rfl) rfl f3.to_Rd f4.to_Rd (hb.u hw) (by omega) (by omega) rfl (by omega) (by omega) (by omega) (by omega) (by omega) (by assumption) (by rfl) ?_
  rintro A13 w13 f13 b13
  have s13 := b13.size
  replace hw := hw.trans (b13.mono hw.size)
  replace hw1 := hw1.trans (b13.mono hw1.size)
  replace f4 := f4.u b13
  replace f3 := f3.u b13
  replace f6 := f6.u b13
  exact hk [_] _ ⟨_, rfl, by assumption⟩ hw1
 ·intro wI hbI fo T T2 n2
  rintro _ lo0 hi0 ⟨A13, rfl, f13⟩ ql0 qm0 qh0 -
  try dsimp only at ql0 qm0 qh0 
  try simp only [drew_size] at ql0 qm0 qh0 
  intro hk
  dsimp only [Item.idx, inOrder, nthOp, List.map, List.zip_cons_cons, List.zip_nil_right, List.cons_append, List.nil_append]
  have shbI := hbI.size
  simp only [drew_size] at shbI
  replace hw := hw.trans (hbI.mono hw.size)
  replace f6 := f6.u hbI
  replace f3 := f3.u hbI
  replace f4 := f4.u hbI
  have hw1 := Below.refl wI.heap.size wI
  refine wl_call rfl (C_refSum512 _ f13 hh (by rfl) (by simp) (by simp; omega)) ?_
  rintro v14 w14 ⟨rfl, b14⟩
  have s14 := b14.size
  replace hw := hw.trans (b14.mono hw.size)
  replace hw1 := hw1.trans (b14.mono hw1.size)
  replace f4 := f4.u b14
  replace f3 := f3.u b14
  replace f6 := f6.u b14
  replace f13 := f13.u b14
  exact hk [_] _ rfl hw1
 ·intro wI hbI fo T T2 n2
  intro hk
  dsimp only [Item.idx, inOrder, nthOp, List.map, List.zip_cons_cons, List.zip_nil_right, List.cons_append, List.nil_append]
  have shbI := hbI.size
  simp only [drew_size] at shbI
  replace hw := hw.trans (hbI.mono hw.size)
  replace f6 := f6.u hbI
  replace f3 := f3.u hbI
  replace f4 := f4.u hbI
  have hw1 := Below.refl wI.heap.size wI
  refine wl_allocB Tryz.underlying46 Tryz.zeroValue46 (by rfl) ?_
  rintro g7 w7 f7 b7 i7 i7_1
  have s7 := b7.size
  replace hw := hw.trans (b7.mono hw.size)
  replace hw1 := hw1.trans (b7.mono hw1.size)
  replace f4 := f4.u b7
  replace f3 := f3.u b7
  replace f6 := f6.u b7
  exact hk [_] _ ⟨_, rfl, f7, by omega, by omega⟩ hw1
 intro wE hbE
 rintro _ lo0 hi0 ⟨A13, rfl, f13⟩ ql0 qm0 qh0 -
 rintro _ lo1 hi1 ⟨rfl⟩ ql1 qm1 qh1 ⟨qa1_0, -⟩
 rintro _ lo2 hi2 ⟨g7, rfl, f7, f7_1, f7_2⟩ ql2 qm2 qh2 ⟨qa2_1, qa2_0, -⟩
 try dsimp only at ql0 qm0 qh0  ql1 qm1 qh1 qa1_0 ql2 qm2 qh2 qa2_0 qa2_1
 try simp only [drew_size] at ql0 qm0 qh0  ql1 qm1 qh1 qa1_0 ql2 qm2 qh2 qa2_0 qa2_1
 dsimp only [given, Item.idx, inOrder, nthOp, List.map, List.zip_cons_cons, List.zip_nil_right]
 have shbE := hbE.size
 simp only [drew_size] at shbE
 replace hw := hw.trans (hbE.mono hw.size)
 replace f6 := f6.u hbE
 replace f3 := f3.u hbE
 replace f4 := f4.u hbE
 refine wl_stBa Tryz.sizeOf46 rfl f7 rfl hhl (by rfl) ?_
 rintro w_1 f g e
 have s := g.size
 replace hw := hw.trans (below_of_grownBy g.g hw.size (by omega))
 replace f4 := f4.k g.g (ap_some (by omega))
 replace f3 := f3.k g.g (ap_some (by omega))
 replace f6 := f6.k g.g (ap_some (by omega))
 clear f7
 clear f13
 refine wl_nild ?_
 refine zs ?_
 refine zp (o_slice_arr (t := 46) Tryz.underlying46 Tryz.sizeOf5 rfl) ?_
 refine wl_call rfl (C_f4Rest _ f.to_Rd (by omega) (by omega)) ?_
 rintro v17 w17 ⟨r17, ⟨rfl, b17⟩⟩
 have s17 := b17.size
 replace hw := hw.trans (b17.mono hw.size)
 replace f6 := f6.u b17
 replace f3 := f3.u b17
 replace f4 := f4.u b17
 replace f := f.u b17
 refine zm rfl ?_
 refine zp (o_ext20 rfl) ?_
 refine zp (o_ext21 rfl) ?_
 refine wl_allocB Tryz.underlying108 Tryz.zeroValue108 (by rfl) ?_
 rintro g8 w8 f8 b8 i8 i8_1
 have s8 := b8.size
 replace hw := hw.trans (b8.mono hw.size)
 replace f := f.u b8
 replace f4 := f4.u b8
 replace f3 := f3.u b8
 replace f6 := f6.u b8
 refine wl_stBa Tryz.sizeOf108 rfl f8 rfl (by omega) (by rfl) ?_
 rintro w_2 f_1 g_1 e_1
 have s_1 := g_1.size
 replace hw := hw.trans (below_of_grownBy g_1.g hw.size (by omega))
 replace f6 := f6.k g_1.g (ap_some (by omega))
 replace f3 := f3.k g_1.g (ap_some (by omega))
 replace f4 := f4.k g_1.g (ap_some (by omega))
 replace f := f.k g_1.g (ap_some (by omega))
 clear f8
 refine za rfl (wl_nil (zs ?_))
 refine wl_r (o_ldBa Tryz.isAgg108 Tryz.sizeOf108 rfl f_1 (by omega)) ?_
 refine wl_stBa Tryz.sizeOf108 rfl f6 rfl (by omega) (by rfl) ?_
 rintro w_3 f_2 g_2 e_2
 have s_2 := g_2.size
 replace hw := hw.trans (below_of_grownBy g_2.g hw.size (by omega))
 replace f := f.k g_2.g (ap_some (by omega))
 replace f4 := f4.k g_2.g (ap_some (by omega))
 replace f3 := f3.k g_2.g (ap_some (by omega))
 replace f_1 := f_1.k g_2.g (ap_some (by omega))
 clear f6
 refine wl_nil ?_
 refine ret_cell rfl rfl Tryz.isAgg108 Tryz.sizeOf108 (by assumption) (by first | exact vI10 | exact b32 | exact ptC_len _ | exact frC_len _ | rfl) ?_
 exact ⟨_, rfl, hw⟩
theorem K_sum512E {A : Option Addr} {L : List By} {n c : Nat} (w : World) (hK : RKb w A L) (hn : n = L.length) (hL : L.length ≤ 40) (hL2 : ∀ x ∈ L, x.length ≤ 4000) :
  CallsR Tryz.prog 104 [.slice A n c] w fun v w' => ∃ h : By, v = .agg (B8 h).toArray ∧ h.length = 64 ∧ Below w.heap.size w w' :=
 (C_refSum512 w hK rfl hn hL hL2).mono fun _ _ h => ⟨_, h.1, bytesU_len _, h.2⟩
end Go.Proofs.YtahkeoegbjopfaaGreat
namespace Go.Proofs.YtahkeoegbjopfaaGreat
set_option maxRecDepth 100000
open Go.RowKit
attribute [local irreducible] carryS openS closeS plusS minusS timesS powerS ofS shiftedS restS subS negS mulS powS invS rootS crRoot awayS nearS fplus ckS dS zeroPt mul2S baseS mlF mulPt bytesPt secS
section
variable {P : Program} {fn : Func} {F : Ending → World → Prop} {N : Nat} {ks : List K} {ops : Array Oper} {tg : Tags} {l : List Oper} {fr : Fr} {w : World} {ty t t' t2 : TypeId} {pos : String} {aft : Array Edge} {gd : Option (Nat × Bool)} {d n g o c m k : Nat} {x y : Operand} {A : Option Addr} {s cs : By}
theorem wl_cpE (T : U8 P t) (hx : fr.ev x = some (.slice (some ⟨g, o, none⟩) n c)) (hy : fr.ev y = some (.slice A m k)) (hB : Blk w g t' (B8 cs)) (hr : Rd w A s) (hm : m = s.length) (hi : o + n ≤ cs.length) (h2 : m ≤ n)
  (h : ∀ w' (cs' : By), cs'.length = cs.length → Blk w' g t' (B8 cs') → w.grownBy w' (some g) → w'.heap.size = w.heap.size → WL P fn F N ks ops tg.tail l ((d, .int .i64 (min m n : Nat)) :: fr) w')
  (ht : tg.loud = true := by rfl) (hg : onG ops fr gd = true := by rfl) (hd : Nat.blt d N = true := by rfl) (hq : tg.calm = false ∨ some g = tg.row := by exact .inl rfl) :
  WL P fn F N ks ops tg (⟨some d, .call { callee := .builtin .copy, args := #[x, y], argTypes := #[t, t2] }, ty, pos, aft, gd⟩ :: l) fr w := by
 refine wl_copy T hx hy hm hr hB (by rw [B8_length]; exact hi) (fun w' h3 h4 h5 => ?_) ht hg hd hq
 refine h w' (cs.take o ++ s ++ cs.drop (o + s.length)) (by simp only [List.length_append, List.length_take, List.length_drop]; omega) ?_ h4 h5
 rw [List.take_of_length_le (by omega)] at h3
 have e : spl (B8 cs) o (B8 s) = B8 (cs.take o ++ s ++ cs.drop (o + s.length)) := by
  unfold spl
  rw [B8_length]
  simp [B8, List.map_append, List.map_take, List.map_drop]
 rw [← e]; exact h3
end
set_option maxRecDepth 100000 in
set_option maxHeartbeats 1000000 in
theorem C_f6Sign {s : N32} {A : Option Addr} {b : By} {n c : Nat} (w : World) (hb : Rd w A b) (hn : n = b.length) (hc : b.length ≤ c) (hc2 : c ≤ maxLen) (hl : b.length ≤ 4000) :
  CallsR Tryz.prog 56 [.agg (B8 s.1).toArray, .slice A n c] w fun v w' => ∃ q : By, v = .agg (B8 q).toArray ∧ q.length = 64 ∧ Below w.heap.size w w' := by
 subst hn
 have hs := s.2
 obtain ⟨sn, hsn⟩ : ∃ zz, secS s = zz := ⟨_, rfl⟩
 obtain ⟨bb, hbb⟩ : ∃ zz, baseS = zz := ⟨_, rfl⟩
 obtain ⟨pp, hpp⟩ : ∃ zz, mulPt sn bb = zz := ⟨_, rfl⟩
 obtain ⟨kq, hkq⟩ : ∃ zz, bytesPt pp = zz := ⟨_, rfl⟩
 have hsnl := sn.2
 refine callsR Tryz.func56 rfl rfl (by kernel_rfl) rfl ?_
 have hw := Below.refl w.heap.size w
 refine zs ?_
 refine wl_boxg _ rfl (by rfl) ?_
 rintro g2 w2 f2 b2 i2 i2_1
 have s2 := b2.size
 replace hw := hw.trans (b2.mono hw.size)
 refine wl_allocB Tryz.underlying47 Tryz.zeroValue47 (by rfl) ?_
 rintro g4 w4 f4 b4 i4 i4_1
 have s4 := b4.size
 replace hw := hw.trans (b4.mono hw.size)
 replace f2 := f2.u b4
 refine wl_nil (zs ?_)
 refine wl_r (o_ldBa Tryz.isAgg41 Tryz.sizeOf41 rfl f2 hs) ?_
 refine wl_call rfl (C_f6secret _ hsn) ?_
 rintro v16 w16 ⟨A16, ⟨bs16, ⟨c16, ⟨rfl, ⟨f16, ⟨i16, b16⟩⟩⟩⟩⟩⟩
 have qf16 := f16.cap
 have s16 := b16.size
 replace hw := hw.trans (b16.mono hw.size)
 replace f2 := f2.u b16
 replace f4 := f4.u b16
 refine zm rfl ?_
 refine zp (o_ext20 rfl) ?_
 refine zp (o_ext21 rfl) ?_
 refine wl_allocB Tryz.underlying108 Tryz.zeroValue108 (by rfl) ?_
 rintro g5 w5 f5 b5 i5 i5_1
 have s5 := b5.size
 replace hw := hw.trans (b5.mono hw.size)
 replace f4 := f4.u b5
 replace f2 := f2.u b5
 replace f16 := f16.u b5
 refine wl_stBa Tryz.sizeOf108 rfl f5 rfl hsnl (by rfl) ?_
 rintro w_1 f g e
 have s_1 := g.size
 replace hw := hw.trans (below_of_grownBy g.g hw.size (by omega))
 replace f16 := f16.k g.g (ap_some (by omega))
 replace f2 := f2.k g.g (ap_some (by omega))
 replace f4 := f4.k g.g (ap_some (by omega))
 clear f5
 refine za rfl (wl_nil (zs (zm rfl (zm rfl ?_))))
 refine wl_litKr2 (by rfl) rfl f16.to_Rd (hb.u hw) rfl rfl (by omega) (by omega) (own_max' (by assumption)) (by assumption) (by rfl) ?_
 rintro A21 w21 f21 b21
 have s21 := b21.size
 replace hw := hw.trans (b21.mono hw.size)
 replace f4 := f4.u b21
 replace f2 := f2.u b21
 replace f16 := f16.u b21
 replace f := f.u b21
 refine wl_call rfl (K_sum512E _ (by assumption) rfl (by simp) (by simp; omega)) ?_
 rintro _ w22 ⟨h22, rfl, hl22, b22⟩
 have sb22 := b22.size
 replace hw := hw.trans (b22.mono hw.size)
 replace f := f.u b22
 replace f16 := f16.u b22
 replace f2 := f2.u b22
 replace f4 := f4.u b22
 replace f21 := f21.u b22
 refine wl_allocB Tryz.underlying46 Tryz.zeroValue46 (by rfl) ?_
 rintro g7 w7 f7 b7 i7 i7_1
 have s7 := b7.size
 replace hw := hw.trans (b7.mono hw.size)
 replace f21 := f21.u b7
 replace f4 := f4.u b7
 replace f2 := f2.u b7
 replace f16 := f16.u b7
 replace f := f.u b7
 refine wl_stBa Tryz.sizeOf46 rfl f7 rfl hl22 (by rfl) ?_
 rintro w_2 f_1 g_1 e_1
 have s_2 := g_1.size
 replace hw := hw.trans (below_of_grownBy g_1.g hw.size (by omega))
 replace f := f.k g_1.g (ap_some (by omega))
 replace f16 := f16.k g_1.g (ap_some (by omega))
 replace f2 := f2.k g_1.g (ap_some (by omega))
 replace f4 := f4.k g_1.g (ap_some (by omega))
 clear f21
 clear f7
 refine wl_nil (zs ?_)
 refine zp (o_slice_arr (t := 46) Tryz.underlying46 Tryz.sizeOf5 rfl) ?_
 refine wl_call rfl (C_f4Rest _ f_1.to_Rd (by omega) (by omega)) ?_
 rintro v25 w25 ⟨r25, ⟨rfl, b25⟩⟩
 have s25 := b25.size
 replace hw := hw.trans (b25.mono hw.size)
 replace f4 := f4.u b25
 replace f2 := f2.u b25
 replace f16 := f16.u b25
 replace f := f.u b25
 replace f_1 := f_1.u b25
 refine zm rfl ?_
 refine zp (o_ext20 rfl) ?_
 refine zp (o_ext21 rfl) ?_
 refine wl_allocB Tryz.underlying108 Tryz.zeroValue108 (by rfl) ?_
 rintro g8 w8 f8 b8 i8 i8_1
 have s8 := b8.size
 replace hw := hw.trans (b8.mono hw.size)
 replace f_1 := f_1.u b8
 replace f := f.u b8
 replace f16 := f16.u b8
 replace f2 := f2.u b8
 replace f4 := f4.u b8
 refine wl_stBa Tryz.sizeOf108 rfl f8 rfl (by omega) (by rfl) ?_
 rintro w_3 f_2 g_2 e_2
 have s_3 := g_2.size
 replace hw := hw.trans (below_of_grownBy g_2.g hw.size (by omega))
 replace f4 := f4.k g_2.g (ap_some (by omega))
 replace f2 := f2.k g_2.g (ap_some (by omega))
 replace f16 := f16.k g_2.g (ap_some (by omega))
 replace f := f.k g_2.g (ap_some (by omega))
 replace f_1 := f_1.k g_2.g (ap_some (by omega))
 clear f8
 refine za rfl (wl_nil (rk_seq ?_))
 refine rk_drawo (id := 4) (none) [0, 0, 3, 4, 8, 16, 16, 0, 191, 511] [0, 0, 3, 7, 15, 31, 31, 0, 191, 511] 398 130 [0] [(.s, 0), (.f 1 398 130, 9)] (by kernel_rfl) (by kernel_rfl) (by kernel_rfl) (by kernel_rfl) (by kernel_rfl) ?_
 dsimp only [inOrder, nthOp]
 replace hw := hw.drew
 replace f_1 := f_1.d
 replace f := f.d
 replace f16 := f16.d
 replace f2 := f2.d
 replace f4 := f4.d
 replace f_2 := f_2.d
 refine wl_s (fun _ hk => (o_ldBa Tryz.isAgg108 Tryz.sizeOf108 rfl (f_2.u (below_of_grown_none hk)) (by omega))) ?_
 obtain ⟨p2, hp2⟩ : ∃ zz, mulPt r25 bb = zz := ⟨_, rfl⟩
 obtain ⟨q2, hq2⟩ : ∃ zz, bytesPt p2 = zz := ⟨_, rfl⟩
 have hq2l := q2.1.2
 refine wl_conc [⟨1, [], [30], [], fun vs w' lo hi => vs = [.agg (ptC bb).toArray]⟩, ⟨2, [], [31], [0], fun vs w' lo hi => vs = [.agg (ptC p2).toArray]⟩, ⟨3, [(.p, 4), (.p, 5), (.p, 6)], [34, 33, 28, 32], [0, 1], fun vs w' lo hi => vs = [.int .i64 q2.2, .agg (B8 q2.1.1).toArray, .tuple #[.agg (B8 q2.1.1).toArray, .int .i64 q2.2], .tuple #[.agg (B8 q2.1.1).toArray, .int .i64 q2.2]]⟩, ⟨7, [], [10], [], fun vs w' lo hi => ∃ (g10 : Nat), vs = [.pointer (some ⟨g10, 0, none⟩)] ∧ Blk w' g10 41 (B8 (List.replicate 32 0)) ∧ lo ≤ g10 ∧ g10 < hi⟩] [0, 1, 2, 3] [0, 0, 3, 4, 8, 16, 16, 0, 191, 511] [0, 0, 3, 7, 15, 31, 31, 0, 191, 511] [8, 9] [(.l, 8), (.p, 9)] (by kernel_rfl) (by kernel_rfl) (by kernel_rfl) (by kernel_rfl) ⟨fun _ _ _ _ _ h _ => h, fun _ _ _ _ _ h _ => h, fun _ _ _ _ _ h _ => h, fun _ _ _ _ _ h hb => by obtain ⟨g10, e0, g0, g1, g2⟩ := h; exact ⟨g10, e0, g0.u hb, g1, g2⟩, trivial⟩ ⟨?_, ?_, ?_, ?_, trivial⟩ ?_
 ·intro wI hbI fo T T2 n2
  intro hk
  dsimp only [Item.idx, inOrder, nthOp, List.map, List.zip_cons_cons, List.zip_nil_right, List.cons_append, List.nil_append]
  have shbI := hbI.size
  simp only [drew_size] at shbI
  replace hw := hw.trans (hbI.mono hw.size)
  replace f_2 := f_2.u hbI
  replace f4 := f4.u hbI
  replace f2 := f2.u hbI
  replace f16 := f16.u hbI
  replace f := f.u hbI
  replace f_1 := f_1.u hbI
  have hw1 := Below.refl wI.heap.size wI
  refine wl_call rfl (C_f5Base _ hbb) ?_ (hq := .inr fun _ _ h => grown_of_below h.2 _)
  rintro v30 w30 ⟨rfl, b30⟩
  have s30 := b30.size
  replace hw := hw.trans (b30.mono hw.size)
  replace hw1 := hw1.trans (b30.mono hw1.size)
  replace f_1 := f_1.u b30
  replace f := f.u b30
  replace f16 := f16.u b30
  replace f2 := f2.u b30
  replace f4 := f4.u b30
  replace f_2 := f_2.u b30
  exact hk [_] _ rfl hw1
 ·intro wI hbI fo T T2 n2
  rintro _ lo0 hi0 ⟨rfl⟩ ql0 qm0 qh0 -
  try dsimp only at ql0 qm0 qh0 
  try simp only [drew_size] at ql0 qm0 qh0 
  intro hk
  dsimp only [Item.idx, inOrder, nthOp, List.map, List.zip_cons_cons, List.zip_nil_right, List.cons_append, List.nil_append]
  have shbI := hbI.size
  simp only [drew_size] at shbI
  replace hw := hw.trans (hbI.mono hw.size)
  replace f_2 := f_2.u hbI
  replace f4 := f4.u hbI
  replace f2 := f2.u hbI
  replace f16 := f16.u hbI
  replace f := f.u hbI
  replace f_1 := f_1.u hbI
  have hw1 := Below.refl wI.heap.size wI
  refine wl_call rfl (C_f5Mul _ hp2) ?_
  rintro v31 w31 ⟨rfl, b31⟩
  have s31 := b31.size
  replace hw := hw.trans (b31.mono hw.size)
  replace hw1 := hw1.trans (b31.mono hw1.size)
  replace f_1 := f_1.u b31
  replace f := f.u b31
  replace f16 := f16.u b31
  replace f2 := f2.u b31
  replace f4 := f4.u b31
  replace f_2 := f_2.u b31
  exact hk [_] _ rfl hw1
 ·intro wI hbI fo T T2 n2
  rintro _ lo0 hi0 ⟨rfl⟩ ql0 qm0 qh0 -
  rintro _ lo1 hi1 ⟨rfl⟩ ql1 qm1 qh1 ⟨qa1_0, -⟩
  try dsimp only at ql0 qm0 qh0  ql1 qm1 qh1 qa1_0
  try simp only [drew_size] at ql0 qm0 qh0  ql1 qm1 qh1 qa1_0
  intro hk
  dsimp only [Item.idx, inOrder, nthOp, List.map, List.zip_cons_cons, List.zip_nil_right, List.cons_append, List.nil_append]
  have shbI := hbI.size
  simp only [drew_size] at shbI
  replace hw := hw.trans (hbI.mono hw.size)
  replace f_2 := f_2.u hbI
  replace f4 := f4.u hbI
  replace f2 := f2.u hbI
  replace f16 := f16.u hbI
  replace f := f.u hbI
  replace f_1 := f_1.u hbI
  have hw1 := Below.refl wI.heap.size wI
  refine wl_call rfl (C_f5Bytes _ hq2) ?_
  rintro v32 w32 ⟨rfl, b32⟩
  have s32 := b32.size
  replace hw := hw.trans (b32.mono hw.size)
  replace hw1 := hw1.trans (b32.mono hw1.size)
  replace f_1 := f_1.u b32
  replace f := f.u b32
  replace f16 := f16.u b32
  replace f2 := f2.u b32
  replace f4 := f4.u b32
  replace f_2 := f_2.u b32
  refine zm rfl ?_
  refine zp (o_ext20 rfl) ?_
  refine zp (o_ext21 rfl) ?_
  exact hk [_, _, _, _] _ rfl hw1
 ·intro wI hbI fo T T2 n2
  intro hk
  dsimp only [Item.idx, inOrder, nthOp, List.map, List.zip_cons_cons, List.zip_nil_right, List.cons_append, List.nil_append]
  have shbI := hbI.size
  simp only [drew_size] at shbI
  replace hw := hw.trans (hbI.mono hw.size)
  replace f_2 := f_2.u hbI
  replace f4 := f4.u hbI
  replace f2 := f2.u hbI
  replace f16 := f16.u hbI
  replace f := f.u hbI
  replace f_1 := f_1.u hbI
  have hw1 := Below.refl wI.heap.size wI
  refine wl_allocB Tryz.underlying41 Tryz.zeroValue41 (by rfl) ?_
  rintro g10 w10 f10 b10 i10 i10_1
  have s10 := b10.size
  replace hw := hw.trans (b10.mono hw.size)
  replace hw1 := hw1.trans (b10.mono hw1.size)
  replace f_1 := f_1.u b10
  replace f := f.u b10
  replace f16 := f16.u b10
  replace f2 := f2.u b10
  replace f4 := f4.u b10
  replace f_2 := f_2.u b10
  exact hk [_] _ ⟨_, rfl, f10, by omega, by omega⟩ hw1
 intro wE hbE
 rintro _ lo0 hi0 ⟨rfl⟩ ql0 qm0 qh0 -
 rintro _ lo1 hi1 ⟨rfl⟩ ql1 qm1 qh1 ⟨qa1_0, -⟩
 rintro _ lo2 hi2 ⟨rfl⟩ ql2 qm2 qh2 ⟨qa2_1, qa2_0, -⟩
 rintro _ lo3 hi3 ⟨g10, rfl, f10, f10_1, f10_2⟩ ql3 qm3 qh3 ⟨qa3_2, qa3_1, qa3_0, -⟩
 try dsimp only at ql0 qm0 qh0  ql1 qm1 qh1 qa1_0 ql2 qm2 qh2 qa2_0 qa2_1 ql3 qm3 qh3 qa3_0 qa3_1 qa3_2
 try simp only [drew_size] at ql0 qm0 qh0  ql1 qm1 qh1 qa1_0 ql2 qm2 qh2 qa2_0 qa2_1 ql3 qm3 qh3 qa3_0 qa3_1 qa3_2
 dsimp only [given, Item.idx, inOrder, nthOp, List.map, List.zip_cons_cons, List.zip_nil_right]
 have shbE := hbE.size
 simp only [drew_size] at shbE
 replace hw := hw.trans (hbE.mono hw.size)
 replace f_2 := f_2.u hbE
 replace f4 := f4.u hbE
 replace f2 := f2.u hbE
 replace f16 := f16.u hbE
 replace f := f.u hbE
 replace f_1 := f_1.u hbE
 refine wl_stBa Tryz.sizeOf41 rfl f10 rfl hq2l (by rfl) ?_
 rintro w_4 f_3 g_3 e_3
 have s_4 := g_3.size
 replace hw := hw.trans (below_of_grownBy g_3.g hw.size (by omega))
 replace f_1 := f_1.k g_3.g (ap_some (by omega))
 replace f := f.k g_3.g (ap_some (by omega))
 replace f16 := f16.k g_3.g (ap_some (by omega))
 replace f2 := f2.k g_3.g (ap_some (by omega))
 replace f4 := f4.k g_3.g (ap_some (by omega))
 replace f_2 := f_2.k g_3.g (ap_some (by omega))
 clear f10
 refine za rfl ?_
 refine wl_nild ?_
 refine rk_seq ?_
 refine rk_drawo (id := 5) (none) [0, 0, 2, 0, 13, 0, 0, 112, 0, 511] [0, 0, 2, 0, 15, 0, 0, 127, 0, 511] 916 276 [0, 1, 3, 5, 6] [(.s, 0), (.s, 1), (.p, 3), (.s, 5), (.s, 6), (.f 107 916 276, 5)] (by kernel_rfl) (by kernel_rfl) (by kernel_rfl) (by kernel_rfl) (by kernel_rfl) ?_
 dsimp only [inOrder, nthOp]
 replace hw := hw.drew
 replace f_2 := f_2.d
 replace f4 := f4.d
 replace f2 := f2.d
 replace f16 := f16.d
 replace f := f.d
 replace f_1 := f_1.d
 replace f_3 := f_3.d
 refine wl_s (fun _ hk => (o_ldBa Tryz.isAgg41 Tryz.sizeOf41 rfl (f_3.u (below_of_grown_none hk)) hq2l)) ?_
 refine wl_s (fun _ hk => (o_ldBa Tryz.isAgg41 Tryz.sizeOf41 rfl (f2.u (below_of_grown_none hk)) hs)) ?_
 refine zm rfl ?_
 refine wl_s (fun _ hk => (o_ldBa Tryz.isAgg108 Tryz.sizeOf108 rfl (f.u (below_of_grown_none hk)) hsnl)) ?_
 refine wl_s (fun _ hk => (o_ldBa Tryz.isAgg108 Tryz.sizeOf108 rfl (f_2.u (below_of_grown_none hk)) (by omega))) ?_
 have hkq1 := kq.1.2
 refine wl_conc [⟨2, [], [37], [], fun vs w' lo hi => vs = [.agg (B8 kq.1.1).toArray]⟩, ⟨4, [], [39], [0], fun vs w' lo hi => ∃ (x39 : N32), vs = [.agg (B8 x39.1).toArray]⟩, ⟨7, [], [42], [0, 1], fun vs w' lo hi => ∃ (x42 : N32), vs = [.agg (B8 x42.1).toArray]⟩, ⟨8, [], [12], [], fun vs w' lo hi => ∃ (g12 : Nat), vs = [.pointer (some ⟨g12, 0, none⟩)] ∧ Blk w' g12 108 (B8 (List.replicate 32 0)) ∧ lo ≤ g12 ∧ g12 < hi⟩] [0, 1, 2, 3] [0, 0, 2, 0, 13, 0, 0, 112, 0, 511] [0, 0, 2, 0, 15, 0, 0, 127, 0, 511] [9] [(.l, 9)] (by kernel_rfl) (by kernel_rfl) (by kernel_rfl) (by kernel_rfl) ⟨fun _ _ _ _ _ h _ => h, fun _ _ _ _ _ h hb => by obtain ⟨x39, e0⟩ := h; exact ⟨x39, e0⟩, fun _ _ _ _ _ h hb => by obtain ⟨x42, e0⟩ := h; exact ⟨x42, e0⟩, fun _ _ _ _ _ h hb => by obtain ⟨g12, e0, g0, g1, g2⟩ := h; exact ⟨g12, e0, g0.u hb, g1, g2⟩, trivial⟩ ⟨?_, ?_, ?_, ?_, trivial⟩ ?_
 ·intro wI hbI fo T T2 n2
  intro hk
  dsimp only [Item.idx, inOrder, nthOp, List.map, List.zip_cons_cons, List.zip_nil_right, List.cons_append, List.nil_append]
  have shbI := hbI.size
  simp only [drew_size] at shbI
  replace hw := hw.trans (hbI.mono hw.size)
  replace f_3 := f_3.u hbI
  replace f_1 := f_1.u hbI
  replace f := f.u hbI
  replace f16 := f16.u hbI
  replace f2 := f2.u hbI
  replace f4 := f4.u hbI
  replace f_2 := f_2.u hbI
  have hw1 := Below.refl wI.heap.size wI
  refine wl_call rfl (C_f6Key _ hsn hbb hpp hkq) ?_ (hq := .inr fun _ _ h => grown_of_below h.2 _)
  rintro v37 w37 ⟨rfl, b37⟩
  have s37 := b37.size
  replace hw := hw.trans (b37.mono hw.size)
  replace hw1 := hw1.trans (b37.mono hw1.size)
  replace f_2 := f_2.u b37
  replace f4 := f4.u b37
  replace f2 := f2.u b37
  replace f16 := f16.u b37
  replace f := f.u b37
  replace f_1 := f_1.u b37
  replace f_3 := f_3.u b37
  exact hk [_] _ rfl hw1
 ·intro wI hbI fo T T2 n2
  rintro _ lo0 hi0 ⟨rfl⟩ ql0 qm0 qh0 -
  try dsimp only at ql0 qm0 qh0 
  try simp only [drew_size] at ql0 qm0 qh0 
  intro hk
  dsimp only [Item.idx, inOrder, nthOp, List.map, List.zip_cons_cons, List.zip_nil_right, List.cons_append, List.nil_append]
  have shbI := hbI.size
  simp only [drew_size] at shbI
  replace hw := hw.trans (hbI.mono hw.size)
  replace f_3 := f_3.u hbI
  replace f_1 := f_1.u hbI
  replace f := f.u hbI
  replace f16 := f16.u hbI
  replace f2 := f2.u hbI
  replace f4 := f4.u hbI
  replace f_2 := f_2.u hbI
  have hw1 := Below.refl wI.heap.size wI
  refine wl_call rfl (C_f6challenge _ (hb.u hw) rfl (by omega) (by omega) (by omega)) ?_ (hq := .inr fun _ _ h => grown_of_below h.choose_spec.2 _)
  rintro v39 w39 ⟨q39, ⟨rfl, b39⟩⟩
  have s39 := b39.size
  replace hw := hw.trans (b39.mono hw.size)
  replace hw1 := hw1.trans (b39.mono hw1.size)
  replace f_2 := f_2.u b39
  replace f4 := f4.u b39
  replace f2 := f2.u b39
  replace f16 := f16.u b39
  replace f := f.u b39
  replace f_1 := f_1.u b39
  replace f_3 := f_3.u b39
  exact hk [_] _ ⟨_, rfl⟩ hw1
 ·intro wI hbI fo T T2 n2
  rintro _ lo0 hi0 ⟨rfl⟩ ql0 qm0 qh0 -
  rintro _ lo1 hi1 ⟨x39, rfl⟩ ql1 qm1 qh1 ⟨qa1_0, -⟩
  try dsimp only at ql0 qm0 qh0  ql1 qm1 qh1 qa1_0
  try simp only [drew_size] at ql0 qm0 qh0  ql1 qm1 qh1 qa1_0
  intro hk
  dsimp only [Item.idx, inOrder, nthOp, List.map, List.zip_cons_cons, List.zip_nil_right, List.cons_append, List.nil_append]
  have shbI := hbI.size
  simp only [drew_size] at shbI
  replace hw := hw.trans (hbI.mono hw.size)
  replace f_3 := f_3.u hbI
  replace f_1 := f_1.u hbI
  replace f := f.u hbI
  replace f16 := f16.u hbI
  replace f2 := f2.u hbI
  replace f4 := f4.u hbI
  replace f_2 := f_2.u hbI
  have hw1 := Below.refl wI.heap.size wI
  refine wl_call rfl (C_f4MulAdd _) ?_
  rintro v42 w42 ⟨r42, ⟨rfl, b42⟩⟩
  have s42 := b42.size
  replace hw := hw.trans (b42.mono hw.size)
  replace hw1 := hw1.trans (b42.mono hw1.size)
  replace f_2 := f_2.u b42
  replace f4 := f4.u b42
  replace f2 := f2.u b42
  replace f16 := f16.u b42
  replace f := f.u b42
  replace f_1 := f_1.u b42
  replace f_3 := f_3.u b42
  exact hk [_] _ ⟨_, rfl⟩ hw1
 ·intro wI hbI fo T T2 n2
  intro hk
  dsimp only [Item.idx, inOrder, nthOp, List.map, List.zip_cons_cons, List.zip_nil_right, List.cons_append, List.nil_append]
  have shbI := hbI.size
  simp only [drew_size] at shbI
  replace hw := hw.trans (hbI.mono hw.size)
  replace f_3 := f_3.u hbI
  replace f_1 := f_1.u hbI
  replace f := f.u hbI
  replace f16 := f16.u hbI
  replace f2 := f2.u hbI
  replace f4 := f4.u hbI
  replace f_2 := f_2.u hbI
  have hw1 := Below.refl wI.heap.size wI
  refine wl_allocB Tryz.underlying108 Tryz.zeroValue108 (by rfl) ?_
  rintro g12 w12 f12 b12 i12 i12_1
  have s12 := b12.size
  replace hw := hw.trans (b12.mono hw.size)
  replace hw1 := hw1.trans (b12.mono hw1.size)
  replace f_2 := f_2.u b12
  replace f4 := f4.u b12
  replace f2 := f2.u b12
  replace f16 := f16.u b12
  replace f := f.u b12
  replace f_1 := f_1.u b12
  replace f_3 := f_3.u b12
  exact hk [_] _ ⟨_, rfl, f12, by omega, by omega⟩ hw1
 intro wE hbE
 rintro _ lo0 hi0 ⟨rfl⟩ ql0 qm0 qh0 -
 rintro _ lo1 hi1 ⟨x39, rfl⟩ ql1 qm1 qh1 ⟨qa1_0, -⟩
 rintro _ lo2 hi2 ⟨x42, rfl⟩ ql2 qm2 qh2 ⟨qa2_1, qa2_0, -⟩
 rintro _ lo3 hi3 ⟨g12, rfl, f12, f12_1, f12_2⟩ ql3 qm3 qh3 ⟨qa3_2, qa3_1, qa3_0, -⟩
 try dsimp only at ql0 qm0 qh0  ql1 qm1 qh1 qa1_0 ql2 qm2 qh2 qa2_0 qa2_1 ql3 qm3 qh3 qa3_0 qa3_1 qa3_2
 try simp only [drew_size] at ql0 qm0 qh0  ql1 qm1 qh1 qa1_0 ql2 qm2 qh2 qa2_0 qa2_1 ql3 qm3 qh3 qa3_0 qa3_1 qa3_2
 dsimp only [given, Item.idx, inOrder, nthOp, List.map, List.zip_cons_cons, List.zip_nil_right]
 have shbE_1 := hbE.size
 simp only [drew_size] at shbE_1
 replace hw := hw.trans (hbE.mono hw.size)
 replace f_3 := f_3.u hbE
 replace f_1 := f_1.u hbE
 replace f := f.u hbE
 replace f16 := f16.u hbE
 replace f2 := f2.u hbE
 replace f4 := f4.u hbE
 replace f_2 := f_2.u hbE
 refine wl_stBa Tryz.sizeOf108 rfl f12 rfl (by omega) (by rfl) ?_
 rintro w_5 f_4 g_4 e_4
 have s_5 := g_4.size
 replace hw := hw.trans (below_of_grownBy g_4.g hw.size (by omega))
 replace f_2 := f_2.k g_4.g (ap_some (by omega))
 replace f4 := f4.k g_4.g (ap_some (by omega))
 replace f2 := f2.k g_4.g (ap_some (by omega))
 replace f16 := f16.k g_4.g (ap_some (by omega))
 replace f := f.k g_4.g (ap_some (by omega))
 replace f_1 := f_1.k g_4.g (ap_some (by omega))
 replace f_3 := f_3.k g_4.g (ap_some (by omega))
 clear f12
 refine wl_nild ?_
 refine zs ?_
 refine wl_allocB Tryz.underlying47 Tryz.zeroValue47 (by rfl) ?_
 rintro g13 w13 f13 b13 i13 i13_1
 have s13 := b13.size
 replace hw := hw.trans (b13.mono hw.size)
 replace f_3 := f_3.u b13
 replace f_1 := f_1.u b13
 replace f := f.u b13
 replace f16 := f16.u b13
 replace f2 := f2.u b13
 replace f4 := f4.u b13
 replace f_2 := f_2.u b13
 replace f_4 := f_4.u b13
 refine wl_nil (rk_seq ?_)
 refine rk_draw (id := 7) (none) [0, 0, 3] [0, 0, 3] 4 0 [(.p, 0), (.p, 1), (.l, 2)] (by kernel_rfl) (by kernel_rfl) (by kernel_rfl) (by kernel_rfl) (by kernel_rfl) ?_
 replace hw := hw.drew
 replace f_4 := f_4.d
 replace f_2 := f_2.d
 replace f4 := f4.d
 replace f2 := f2.d
 replace f16 := f16.d
 replace f := f.d
 replace f_1 := f_1.d
 replace f_3 := f_3.d
 replace f13 := f13.d
 refine zp (o_slice_arr (t := 47) Tryz.underlying47 Tryz.sizeOf5 rfl) ?_
 refine zp (o_slice_arr (t := 41) Tryz.underlying41 Tryz.sizeOf5 rfl) ?_
 refine wl_cpE Tryz.u8 rfl rfl f13 f_3.to_Rd q2.1.2.symm (by simp) (by omega) (fun w45 c1 l1 e1 e2 e3 => ?_)
 replace hw := hw.trans (below_of_grownBy e2 hw.size (by omega))
 replace f_4 := f_4.k e2 (ap_some (by omega))
 replace f4 := f4.k e2 (ap_some (by omega))
 replace e3 : w45.heap.size = w13.heap.size := e3
 rw [List.length_replicate] at l1
 clear f13 f_3 f f_1 f_2 f2
 refine wl_nild ?_
 refine rk_seq ?_
 refine rk_draw (id := 8) (none) [0, 0, 3] [0, 0, 3] 4 0 [(.p, 0), (.p, 1), (.l, 2)] (by kernel_rfl) (by kernel_rfl) (by kernel_rfl) (by kernel_rfl) (by kernel_rfl) ?_
 replace hw := hw.drew
 replace f4 := f4.d
 replace f_4 := f_4.d
 replace e1 := e1.d
 refine zp (o_slArrLo2 (32) Tryz.underlying47 Tryz.sizeOf5 rfl rfl (by omega) (by omega)) ?_
 refine zp (o_slice_arr (t := 108) Tryz.underlying108 Tryz.sizeOf5 rfl) ?_
 refine wl_cpE Tryz.u8 rfl rfl e1 f_4.to_Rd x42.2.symm (by omega) (by omega) (fun w48 c2 l2 e4 e5 e6 => ?_)
 replace hw := hw.trans (below_of_grownBy e5 hw.size (by omega))
 replace f4 := f4.k e5 (ap_some (by omega))
 replace e6 : w48.heap.size = w45.heap.size := e6
 rw [l1] at l2
 clear e1 f_4
 refine wl_nild ?_
 refine zs ?_
 refine wl_r (o_ldBa Tryz.isAgg47 Tryz.sizeOf47 rfl e4 l2) ?_
 refine wl_stBa Tryz.sizeOf47 rfl f4 rfl l2 (by rfl) ?_
 rintro w_6 f g_5 e_5
 have s_6 := g_5.size
 replace hw := hw.trans (below_of_grownBy g_5.g hw.size (by omega))
 replace e4 := e4.k g_5.g (ap_some (by omega))
 clear f4
 refine wl_nil ?_
 refine ret_cell rfl rfl Tryz.isAgg47 Tryz.sizeOf47 (by assumption) (show (B8 c2).length = 64 by rw [B8_length]; exact l2) ?_
 exact ⟨c2, rfl, l2, hw⟩
end Go.Proofs.YtahkeoegbjopfaaGreat
namespace Go.Proofs.YtahkeoegbjopfaaGreat
set_option maxRecDepth 100000
open Go.RowKit
def sd5 : N32 := ⟨[5, 0, 0, 0, 0, 0, 0, 0, 0, 0, 0, 0, 0, 0, 0, 0, 0, 0, 0, 0, 0, 0, 0, 0, 0, 0, 0, 0, 0, 0, 0, 77], rfl⟩
set_option maxRecDepth 100000 in
theorem C_kSeed5 (w : World) :
  CallsR Tryz.prog 28 [.int .i64 5] w fun v w' => v = .agg (B8 sd5.1).toArray ∧ Below w.heap.size w w' := by
 refine callsR Tryz.func28 rfl rfl (by kernel_rfl) rfl ?_
 have hw := Below.refl w.heap.size w
 refine zs ?_
 refine wl_allocB Tryz.underlying41 Tryz.zeroValue41 (by rfl) ?_
 rintro g2 w2 f2 b2 i2 i2_1
 have s2 := b2.size
 replace hw := hw.trans (b2.mono hw.size)
 refine wl_nil (zs (zm rfl ?_))
 refine zp (o_convI8 Tryz.underlying3 Tryz.underlying5 rfl) ?_
 refine zm rfl ?_
 refine zp (o_shrI (8) rfl rfl (by omega) (by omega)) ?_
 refine zp (o_convI8 Tryz.underlying3 Tryz.underlying5 rfl) ?_
 refine zp (o_buildga [_, _, _, _, _, _, _, _, _, _, _, _, _, _, _, _, _, _, _, _, _, _, _, _, _, _, _, _, _, _, _, _] Tryz.underlying41 Tryz.sizeOf5 Tryz.zeroValue41 (by rfl) (by rfl) rfl (by rfl) (by rfl) (fun _ => by kernel_rfl)) ?_
 refine wl_storega Tryz.sizeOf41 rfl rfl (by rfl) (by decide) f2 (by rfl) ?_
 rintro w_1 f g e
 have s := g.size
 replace hw := hw.trans (below_of_grownBy g.g hw.size (by omega))
 clear f2
 refine wl_nil ?_
 refine ret_cell rfl rfl Tryz.isAgg41 Tryz.sizeOf41 (by assumption) (by first | exact vI10 | exact b32 | exact ptC_len _ | exact frC_len _ | rfl) ?_
 exact ⟨by kernel_rfl, hw⟩
end Go.Proofs.YtahkeoegbjopfaaGreat
namespace Go.Proofs.YtahkeoegbjopfaaGreat
set_option maxRecDepth 100000

def room (n : Nat) : Nat :=
 if n < 128 then 1 else if n < 16384 then 2 else if n < 2097152 then 3 else if n < 268435456 then 4 else if n < 34359738368 then 5
 else if n < 4398046511104 then 6 else if n < 562949953421312 then 7 else if n < 72057594037927936 then 8 else 9

theorem room_pos (n : Nat) : 1 ≤ room n ∧ room n ≤ 9 := by
 unfold room
 refine ⟨?_, ?_⟩ <;> (repeat' split) <;> omega

theorem or_one (n : Nat) : n ||| 1 = n / 2 * 2 + 1 := by
 rcases Nat.mod_two_eq_zero_or_one n with h | h
 ·rw [nat_join 1 n 1 (by simpa using h) (by omega)]; omega
 ·have e : n = (n - 1) ||| 1 := by rw [nat_join 1 (n - 1) 1 (by simp; omega) (by omega)]; omega
  have e2 : n ||| 1 = n := by
   have : n ||| 1 = (n - 1) ||| 1 ||| 1 := by rw [← e]
   rw [this, Nat.or_assoc, Nat.or_self, ← e]
  rw [e2]; omega

theorem bl_lo (k x : Nat) (h : 2 ^ k ≤ x) (hx : x < 2 ^ 64) : k + 1 ≤ Lib.bitLen x := by
 rw [Lib.bitLen_shift k x h hx]
 have h1 : 1 ≤ x / 2 ^ k := (Nat.one_le_div_iff (Nat.two_pow_pos k)).2 h
 have h2 : x / 2 ^ k < 2 ^ 64 := Nat.lt_of_le_of_lt (Nat.div_le_self _ _) hx
 rw [Lib.bitLen_half _ (by omega) h2]
 omega

theorem size_room (n : Nat) (h : n < 18446744073709551616) : min (((Lib.bitLen (n ||| 1) : Int) + 6) / 7) 9 = (room n : Int) := by
 have hy := or_one n
 generalize n ||| 1 = y at *
 have y1 : y ≤ n + 1 := by omega
 have y2 : n ≤ y := by omega
 have y3 : y < 2 ^ 64 := by simp; omega
 have hodd : y % 2 = 1 := by omega
 clear hy
 have lo := fun k hk => bl_lo k y hk y3
 have hi := fun k hk hx => Lib.bitLen_le y k hk hx
 unfold room
 split
 ·have := lo 0 (by simp; omega); have := hi 7 (by omega) (by simp; omega); omega
 split
 ·have := lo 7 (by simp; omega); have := hi 14 (by omega) (by simp; omega); omega
 split
 ·have := lo 14 (by simp; omega); have := hi 21 (by omega) (by simp; omega); omega
 split
 ·have := lo 21 (by simp; omega); have := hi 28 (by omega) (by simp; omega); omega
 split
 ·have := lo 28 (by simp; omega); have := hi 35 (by omega) (by simp; omega); omega
 split
 ·have := lo 35 (by simp; omega); have := hi 42 (by omega) (by simp; omega); omega
 split
 ·have := lo 42 (by simp; omega); have := hi 49 (by omega) (by simp; omega); omega
 split
 ·have := lo 49 (by simp; omega); have := hi 56 (by omega) (by simp; omega); omega
 ·have := lo 56 (by simp; omega); omega

def beB : Nat → Nat → List UInt8
 | 0, _ => []
 | j + 1, n => UInt8.ofNat (n / 256 ^ j) :: beB j n
theorem beB_length : ∀ j n, (beB j n).length = j
 | 0, _ => rfl
 | j + 1, n => by simp [beB, beB_length j n]

def first (k n : Nat) : UInt8 := UInt8.ofNat (256 - 2 ^ (9 - k) + n / 256 ^ (k - 1))
def enc (n : Nat) : List UInt8 := first (room n) n :: beB (room n - 1) n
theorem enc_length (n : Nat) : (enc n).length = room n := by
 have := room_pos n
 simp [enc, beB_length]; omega

def clampN (size : Int) : Nat := (max 1 (min size 8)).toNat
theorem clampN_bd (size : Int) : 1 ≤ clampN size ∧ clampN size ≤ 8 ∧ max 1 (min size 8) = (clampN size : Int) := by unfold clampN; omega

theorem byte_shift (n j : Nat) (hj : j ≤ 8) : IntKind.u8.wrap ((n : Int) / 2 ^ min (8 * (j : Int)).toNat IntKind.u64.bits) = ((UInt8.ofNat (n / 256 ^ j)).toNat : Int) := by
 have e : min (8 * (j : Int)).toNat IntKind.u64.bits = 8 * j := by
  show min (8 * (j : Int)).toNat 64 = 8 * j
  omega
 rw [e, UInt8.toNat_ofNat', IntKind.wrap_u8', show (256 : Nat) ^ j = 2 ^ (8 * j) from by rw [Nat.pow_mul]]
 rw [show ((2 : Int) ^ (8 * j)) = ((2 ^ (8 * j) : Nat) : Int) from by simp, ← Int.natCast_ediv]
 generalize n / 2 ^ (8 * j) = q
 omega

theorem room_lt (n : Nat) (h : n < 18446744073709551616) : n / 256 ^ (room n - 1) < 2 ^ (8 - room n) := by
 unfold room
 repeat' split
 all_goals (simp; omega)

/-! What a reader does, on what is left and its error (ErrBad 4, ErrMore 5). -/
def lead (c : UInt8) : Nat := if c.toNat < 128 then 1 else if c.toNat < 192 then 2 else if c.toNat < 224 then 3 else if c.toNat < 240 then 4 else if c.toNat < 248 then 5 else if c.toNat < 252 then 6
 else if c.toNat < 254 then 7 else if c.toNat < 255 then 8 else 9
theorem lead_bd (c : UInt8) : 1 ≤ lead c ∧ lead c ≤ 9 := by
 unfold lead
 refine ⟨?_, ?_⟩ <;> (repeat' split) <;> omega
def beVal (n : Nat) (l : List UInt8) : Nat := l.foldl (fun a c => a * 256 + c.toNat) n
def leVal : List UInt8 → Nat
 | [] => 0
 | c :: r => c.toNat + 256 * leVal r
abbrev RS := List UInt8 × Nat
def rTake (n : Nat) (s : RS) : List UInt8 × RS := if s.2 ≠ 0 then ([], s) else if s.1.length < n then ([], (s.1, 5)) else (s.1.take n, (s.1.drop n, 0))
def rNumber (s : RS) : Nat × RS := if s.2 ≠ 0 then (0, s) else match s.1 with
 | [] => (0, ([], 5))
 | c :: t => if t.length + 1 < lead c then (0, (s.1, 5))
  else if room (beVal (c.toNat % 2 ^ (8 - lead c)) (t.take (lead c - 1))) = lead c then (beVal (c.toNat % 2 ^ (8 - lead c)) (t.take (lead c - 1)), (t.drop (lead c - 1), 0))
  else (0, (s.1, 4))
def rBlock (s : RS) : List UInt8 × RS :=
 if (rNumber s).2.2 ≠ 0 then ([], (s.1, (rNumber s).2.2)) else if (rNumber s).2.1.length < (rNumber s).1 then ([], (s.1, 5)) else ((rNumber s).2.1.take (rNumber s).1, ((rNumber s).2.1.drop (rNumber s).1, 0))
def rWord (size : Int) (s : RS) : Nat × RS := (leVal (rTake (clampN size) s).1, (rTake (clampN size) s).2)
def nulls (n : Nat) : List UInt8 := List.replicate n 0
def rDigest (s : RS) : List UInt8 × RS := (if (rTake 32 s).2.2 ≠ 0 then nulls 32 else (rTake 32 s).1, (rTake 32 s).2)
def rEnd (s : RS) : Nat := if s.2 ≠ 0 then s.2 else if s.1 ≠ [] then 4 else 0

theorem rNumber_err {s : List UInt8} {e : Nat} (h : e ≠ 0) : rNumber (s, e) = (0, (s, e)) := by simp [rNumber, h]
theorem rNumber_nil : rNumber ([], 0) = (0, ([], 5)) := by simp [rNumber]
theorem rNumber_more {c : UInt8} {t : List UInt8} (h : t.length + 1 < lead c) : rNumber (c :: t, 0) = (0, (c :: t, 5)) := by simp [rNumber, h]
theorem rNumber_bad {c : UInt8} {t : List UInt8} (h : ¬ t.length + 1 < lead c) (h2 : room (beVal (c.toNat % 2 ^ (8 - lead c)) (t.take (lead c - 1))) ≠ lead c) : rNumber (c :: t, 0) = (0, (c :: t, 4)) := by simp [rNumber, h, h2]
theorem rNumber_ok {c : UInt8} {t : List UInt8} (h : ¬ t.length + 1 < lead c) (h2 : room (beVal (c.toNat % 2 ^ (8 - lead c)) (t.take (lead c - 1))) = lead c) :
  rNumber (c :: t, 0) = (beVal (c.toNat % 2 ^ (8 - lead c)) (t.take (lead c - 1)), (t.drop (lead c - 1), 0)) := by simp [rNumber, h, h2]

theorem beVal_snoc (n : Nat) (l : List UInt8) (c : UInt8) : beVal n (l ++ [c]) = beVal n l * 256 + c.toNat := by simp [beVal]
theorem beVal_lt : ∀ (l : List UInt8) (n k : Nat), n < 2 ^ k → beVal n l < 2 ^ (k + 8 * l.length)
 | [], n, k, h => by simpa [beVal] using h
 | c :: l, n, k, h => by
  have h1 : n * 256 + c.toNat < 2 ^ (k + 8) := by
   have := c.toNat_lt
   rw [Nat.pow_add]
   omega
  have := beVal_lt l (n * 256 + c.toNat) (k + 8) h1
  have e : beVal n (c :: l) = beVal (n * 256 + c.toNat) l := rfl
  rw [e, List.length_cons, show k + 8 * (l.length + 1) = k + 8 + 8 * l.length from by omega]
  exact this
theorem beVal_u64 (c : UInt8) (l : List UInt8) (h : l.length ≤ lead c - 1) : beVal (c.toNat % 2 ^ (8 - lead c)) l < 18446744073709551616 := by
 have hk := lead_bd c
 have h1 := beVal_lt l (c.toNat % 2 ^ (8 - lead c)) (8 - lead c) (Nat.mod_lt _ (Nat.two_pow_pos _))
 exact Nat.lt_of_lt_of_le h1 (Nat.pow_le_pow_right (by omega) (show 8 - lead c + 8 * l.length ≤ 64 by omega))
theorem mask_byte (c : UInt8) : bits .and .u8 (c.toNat : Int) (255 / 2 ^ min ((lead c : Int)).toNat IntKind.u8.bits) = ((c.toNat % 2 ^ (8 - lead c) : Nat) : Int) := by
 have : ∀ c : Fin 256, bits .and .u8 (c.val : Int) (255 / 2 ^ min ((lead (UInt8.ofNat c.val) : Int)).toNat IntKind.u8.bits) = ((c.val % 2 ^ (8 - lead (UInt8.ofNat c.val)) : Nat) : Int) := by decide +kernel
 simpa using this ⟨c.toNat, c.toNat_lt⟩
theorem join_byte (n : Nat) (c : UInt8) (h : n * 256 < 18446744073709551616) : bits .or .u64 (IntKind.u64.wrap ((n : Int) * 2 ^ min ((8 : Int)).toNat IntKind.u64.bits)) (c.toNat : Int) = ((n * 256 + c.toNat : Nat) : Int) := by
 have hc := c.toNat_lt
 have e : IntKind.u64.wrap ((n : Int) * 2 ^ min ((8 : Int)).toNat IntKind.u64.bits) = ((n * 256 : Nat) : Int) := by
  show ((n : Int) * 256) % 18446744073709551616 = _
  omega
 rw [e, u64_or_nat _ _ h (by omega), nat_join 8 _ _ (by simp) (by simpa using hc)]

theorem leVal_snoc : ∀ (l : List UInt8) (c : UInt8), leVal (l ++ [c]) = leVal l + c.toNat * 256 ^ l.length
 | [], c => by simp [leVal]
 | d :: l, c => by
  simp only [List.cons_append, leVal, leVal_snoc l c, List.length_cons, Nat.pow_succ]
  generalize 256 ^ l.length = q
  rw [Nat.mul_add, Nat.mul_left_comm, Nat.mul_comm 256 q]
  omega
theorem leVal_lt : ∀ l : List UInt8, leVal l < 256 ^ l.length
 | [] => by simp [leVal]
 | c :: l => by
  have h1 := leVal_lt l
  have h2 := c.toNat_lt
  simp only [leVal, List.length_cons, Nat.pow_succ]
  omega
theorem or_byte (l : List UInt8) (c : UInt8) (h : l.length < 8) :
  bits .or .u64 (leVal l : Int) (IntKind.u64.wrap ((c.toNat : Int) * 2 ^ min (8 * (l.length : Int)).toNat IntKind.u64.bits)) = (leVal (l ++ [c]) : Int) := by
 have hc := c.toNat_lt
 have h1 := leVal_lt l
 have e1 : min (8 * (l.length : Int)).toNat IntKind.u64.bits = 8 * l.length := by
  show min (8 * (l.length : Int)).toNat 64 = 8 * l.length
  omega
 have hp : (256 : Nat) ^ l.length = 2 ^ (8 * l.length) := by rw [Nat.pow_mul]
 have hle : 2 ^ (8 * l.length) ≤ 2 ^ 56 := Nat.pow_le_pow_right (by omega) (by omega)
 have hq : c.toNat * 2 ^ (8 * l.length) < 18446744073709551616 := by
  have : c.toNat * 2 ^ (8 * l.length) ≤ 255 * 2 ^ 56 := Nat.mul_le_mul (by omega) hle
  omega
 rw [hp] at h1
 have e2 : IntKind.u64.wrap ((c.toNat : Int) * 2 ^ (8 * l.length)) = ((c.toNat * 2 ^ (8 * l.length) : Nat) : Int) := by
  have e3 : ((c.toNat : Int) * 2 ^ (8 * l.length)) = ((c.toNat * 2 ^ (8 * l.length) : Nat) : Int) := by simp
  rw [e3]
  show ((c.toNat * 2 ^ (8 * l.length) : Nat) : Int) % 18446744073709551616 = _
  omega
 rw [e1, e2, u64_or_nat _ _ (by omega) hq, Nat.or_comm, nat_join (8 * l.length) _ _ (Nat.mul_mod_left _ _) h1, leVal_snoc, hp, Nat.add_comm]
end Go.Proofs.YtahkeoegbjopfaaGreat
namespace Go.Proofs.YtahkeoegbjopfaaGreat
set_option maxRecDepth 100000
open Go.RowKit

theorem C_clamp (n : Int) (w : World) : CallsR Tryz.prog 68 [.int .i64 n] w fun v w' => v = .int .i64 (max 1 (min n 8)) ∧ w = w' := by
 refine callsR Tryz.func68 rfl rfl (by kernel_rfl) rfl ?_
 refine zs (za rfl (wl_nil (zs (zm rfl ?_))))
 refine zp (o_min rfl rfl) ?_
 refine zp (o_max rfl rfl) ?_
 refine za rfl (wl_nil ?_)
 refine ret1 rfl rfl ?_
 exact ⟨rfl, rfl⟩


theorem C_grown {A : Option Addr} {l : List UInt8} {k : Nat} (c : Nat) (hk : k = l.length) (n : Int) (w : World) (hr : Rd w A l) (hn : 0 ≤ n) (hl : l.length + n.toNat ≤ 140737488355328) :
  CallsR Tryz.prog 66 [.slice A k c, .int .i64 n] w fun v w' => ∃ A' c', v = .slice A' l.length c' ∧ Own w' w.heap.size A' c' l ∧ Below w.heap.size w w' := by
 subst hk
 refine callsR Tryz.func66 rfl rfl (by kernel_rfl) rfl ?_
 refine zs (za rfl (wl_nil (zs (zm rfl ?_))))
 refine zp (o_len (t := 39) Tryz.underlying39 rfl) ?_
 refine zm rfl ?_
 refine zp (o_add rfl rfl (by omega) (by omega)) ?_
 refine wl_make0 (n := l.length + n.toNat) Tryz.u8 rfl rfl (by omega) (by omega) ?_
 intro w9 hown9 hb9 hs9
 refine zm rfl ?_
 refine wl_app (s := []) Tryz.u8 rfl rfl hown9 rfl rfl (hr.below hb9) (by simp; omega) (by omega) ?_
 intro A11 c11 w11 hown11 hg11 hk11 hb11
 refine za rfl (wl_nil ?_)
 refine ret1 rfl rfl ?_
 exact ⟨A11, c11, by simp, hown11, hb9.trans hb11⟩

abbrev u64 : Nat := 18446744073709551616

theorem C_len64 (x : Int) (w : World) (h0 : 0 ≤ x) (h1 : x ≤ 18446744073709551615) : CallsR Tryz.prog 179 [.int .u64 x] w fun v w' => v = .int .i64 (Lib.bitLen x.toNat) ∧ w = w' :=
 ⟨⟨_, Tryz.func179, rfl, by kernel_rfl⟩, (Tryz.bits_Len64 x w h0 h1).mono fun _ _ h => ⟨_, h.1, rfl, h.2.symm⟩⟩

theorem C_size (n : Nat) (w : World) (hn : n < u64) : CallsR Tryz.prog 159 [.int .u64 n] w fun v w' => v = .int .i64 (room n) ∧ w = w' := by
 have ho : n ||| 1 < u64 := by have := or_one n; unfold u64 at *; omega
 refine callsR Tryz.func159 rfl rfl (by kernel_rfl) rfl ?_
 refine zs (za rfl (wl_nil (zs (zm rfl ?_))))
 refine zp (o_asi (o_or rfl rfl) (u64_or_nat n 1 hn (by omega))) ?_
 refine wl_call rfl (C_len64 _ _ (by omega) (by unfold u64 at ho; omega)) ?_
 rintro _ w5 ⟨rfl, rfl⟩
 have hb := Lib.bitLen_le (n ||| 1) 64 (by omega) ho
 rw [show ((n ||| 1 : Nat) : Int).toNat = n ||| 1 from by omega]
 refine zp (o_add rfl rfl (by omega) (by omega)) ?_
 refine zp (o_quo rfl rfl (by omega) (by omega) (by omega)) ?_
 refine zp (o_min rfl rfl) ?_
 refine za rfl (wl_nil ?_)
 refine ret1 rfl rfl ?_
 exact ⟨by rw [← size_room n hn], rfl⟩

theorem Tryz.lit8 (c : Int) (w : World) : (Instr.buildSlice 39 1 ([0].zip [Value.int .u8 c]).toArray).run Tryz.prog w = .ok (.slice (some ⟨w.heap.size, 0, none⟩) 1 1) (w.alloc (.cells #[.int .u8 c] 5)) := by kernel_rfl

end Go.Proofs.YtahkeoegbjopfaaGreat
namespace Go.Proofs.YtahkeoegbjopfaaGreat
set_option maxRecDepth 100000
open Go.RowKit

def RdrI (w : World) (g : Nat) (l : List UInt8) (p e : Nat) : Prop :=
 ∃ A c, Blk w g 119 [.pointer (some ⟨g, 0, none⟩), .slice A l.length c, .int .i64 p, .int .i64 e] ∧ Own w 0 A c l ∧ l.length ≤ c ∧ p ≤ l.length ∧ l.length ≤ 140737488355328 ∧ e ≤ 100

theorem blk_cutA (A : Option Addr) (c sz k : Nat) : blk (cutA A c sz k) = blk A := by
 unfold cutA blk
 split
 ·rfl
 ·cases A <;> simp [block_of_add]
theorem Rd.cut {w : World} {A : Option Addr} {l : List UInt8} (h : Rd w A l) {c k : Nat} (hk : k ≤ l.length) (hc : l.length ≤ c) : Rd w (cutA A c 1 k) (l.drop k) := by
 unfold cutA
 rw [Nat.mul_one]
 exact Rd.drop h hk hc

theorem C_made {g : Nat} {vs : List Value} (w : World) (hB : Blk w g 119 (.pointer (some ⟨g, 0, none⟩) :: vs)) :
  CallsR Tryz.prog 84 [.pointer (some ⟨g, 0, none⟩)] w fun v w' => v = .bool true ∧ w = w' := by
 refine callsR Tryz.func84 rfl rfl (by kernel_rfl) rfl ?_
 refine zs (za rfl (wl_nil (zs (zm rfl ?_))))
 refine zp (o_pne_nil (t := 81) Tryz.underlying81 rfl rfl) ?_
 refine zm rfl (zm rfl ?_)
 refine zp (o_nil rfl) ?_
 refine zp (o_faddr (s := 119) (i := 0) (off := 0) Tryz.underlying119 rfl Tryz.sizeOf81 rfl rfl rfl) ?_
 refine wl_r (o_loadb (t := 81) Tryz.isAgg81 rfl hB (by rfl)) ?_
 refine zm rfl ?_
 refine zp (o_peq_same (t := 81) Tryz.underlying81 Tryz.sizeOf119 rfl rfl) ?_
 refine zp (o_pick_t rfl rfl) ?_
 refine za rfl (wl_nil ?_)
 refine ret1 rfl rfl ?_
 exact ⟨rfl, rfl⟩
theorem C_take {g : Nat} {l : List UInt8} {p e : Nat} {m : Int} (n : Nat) (hm : m = n) (w : World) (hR : RdrI w g l p e) :
  CallsR Tryz.prog 67 [.pointer (some ⟨g, 0, none⟩), .int .u64 m] w fun v w' => w.grownBy w' (some g) ∧ w'.heap.size = w.heap.size ∧
   ((e = 0 ∧ n ≤ l.length - p ∧ RdrI w' g l (p + n) 0 ∧ ∃ A' c', v = .tuple #[.slice A' n c', .bool true] ∧ n ≤ c' ∧ Rd w' A' ((l.drop p).take n) ∧ blk A' ≠ some g) ∨
    (v = .tuple #[.slice none 0 0, .bool false] ∧ (e = 0 → l.length - p < n) ∧ RdrI w' g l p (if e = 0 then 5 else e))) := by
 subst hm
 have hR0 := hR
 obtain ⟨A, c, hB, ho, hc, hp, hl, he⟩ := hR
 have hr := ho.rd
 have hA := ho.ne hB (by decide)
 refine callsR Tryz.func67 rfl rfl (by kernel_rfl) rfl ?_
 refine zs (za rfl (za rfl (wl_nil (rk_seq (zs (zm rfl ?_))))))
 refine wl_call rfl (C_made w hB) ?_
 rintro _ w8 ⟨rfl, rfl⟩
 refine zp (o_not rfl) ?_
 refine zm rfl (zm rfl ?_)
 refine zp (o_nil rfl) ?_
 refine zp (o_faddr (s := 119) (i := 3) (off := 3) Tryz.underlying119 rfl Tryz.sizeOf36 rfl rfl rfl) ?_
 refine wl_r (o_loadb (t := 36) Tryz.isAgg36 rfl hB (by rfl)) ?_
 refine zp (o_ne rfl rfl) ?_
 refine zp (o_pick_f rfl rfl) ?_
 refine wl_nil ?_
 refine rk_if rfl (fun h => ?_) (fun h => ?_)
 ·refine zs ?_
  refine za rfl (za rfl (wl_nil ?_))
  refine ret2 rfl rfl rfl ?_
  have he0 : e ≠ 0 := by intro h0; subst h0; exact h rfl
  exact ⟨World.grownBy.refl _ _, rfl, .inr ⟨rfl, fun h0 => absurd h0 he0, by rw [if_neg he0]; exact hR0⟩⟩
 ·have he0 : e = 0 := by omega
  subst he0
  refine rk_skip (rk_seq (rk_seq ?_))
  refine rk_draw (id := 3) (none) [0, 0, 2, 4, 8, 16, 0, 64, 128, 256, 544, 1024, 2049] [0, 0, 2, 6, 14, 30, 0, 64, 192, 448, 1022, 2046, 4095] 0 0 [(.p, 0), (.p, 1), (.p, 2), (.p, 3), (.r, 4), (.p, 5), (.p, 6), (.p, 7), (.p, 8), (.r, 9), (.p, 10), (.p, 11), (.p, 12)] (by kernel_rfl) (by kernel_rfl) (by kernel_rfl) (by kernel_rfl) (by kernel_rfl) ?_
  refine zm rfl (zm rfl ?_)
  refine zp (o_nil rfl) ?_
  refine zp (o_faddr (s := 119) (i := 1) (off := 1) Tryz.underlying119 rfl Tryz.sizeOf39 rfl rfl rfl) ?_
  refine wl_r (o_loadb (t := 39) Tryz.isAgg39 rfl hB (by rfl)) ?_
  refine zp (o_len (t := 39) Tryz.underlying39 rfl) ?_
  refine zm rfl ?_
  refine zp (o_nil rfl) ?_
  refine zp (o_faddr (s := 119) (i := 2) (off := 2) Tryz.underlying119 rfl Tryz.sizeOf3 rfl rfl rfl) ?_
  refine wl_r (o_loadb (t := 3) Tryz.isAgg3 rfl hB (by rfl)) ?_
  refine zp (o_sub rfl rfl (by omega) (by omega)) ?_
  refine zp (o_convu64 (src := 3) (dst := 43) Tryz.underlying3 Tryz.underlying43 rfl (by omega) (by omega)) ?_
  refine zp (o_gt rfl rfl) ?_
  refine wl_nild ?_
  refine rk_if rfl (fun h => ?_) (fun h => ?_)
  ·refine zs ?_
   refine zm rfl ?_
   refine zp (o_nil rfl) ?_
   refine zp (o_faddr (s := 119) (i := 3) (off := 3) Tryz.underlying119 rfl Tryz.sizeOf36 rfl rfl rfl) ?_
   refine wl_store1 Tryz.sizeOf36 rfl rfl rfl hB (by simp) ?_
   intro w1 hB1 hg1 hz1
   refine wl_nil (zs (za rfl (za rfl (wl_nil ?_))))
   refine ret2 rfl rfl rfl ?_
   have hg := grownBy_trans (grownBy_drew w (some g)) hg1
   exact ⟨hg, hz1, .inr ⟨rfl, fun _ => by omega, A, c, hB1, ho.kept hg (.inr hA), hc, hp, hl, by simp⟩⟩
  ·refine rk_skip ?_
   refine zs (zm rfl ?_)
   refine zp (o_nil rfl) ?_
   refine zp (o_faddr (s := 119) (i := 2) (off := 2) Tryz.underlying119 rfl Tryz.sizeOf3 rfl rfl rfl) ?_
   refine wl_r (o_loadb (t := 3) Tryz.isAgg3 rfl hB (by rfl)) ?_
   refine za rfl (wl_nil (zs (zm rfl ?_)))
   refine zp (o_nil rfl) ?_
   refine zp (o_faddr (s := 119) (i := 2) (off := 2) Tryz.underlying119 rfl Tryz.sizeOf3 rfl rfl rfl) ?_
   refine wl_r (o_loadb (t := 3) Tryz.isAgg3 rfl hB (by rfl)) ?_
   refine zm rfl ?_
   refine zp (o_convi64 (src := 43) (dst := 3) Tryz.underlying43 Tryz.underlying3 rfl (by omega) (by omega)) ?_
   refine zp (o_add rfl rfl (by omega) (by omega)) ?_
   refine zp (o_nil rfl) ?_
   refine zp (o_faddr (s := 119) (i := 2) (off := 2) Tryz.underlying119 rfl Tryz.sizeOf3 rfl rfl rfl) ?_
   refine wl_store1 Tryz.sizeOf3 rfl rfl rfl hB (by simp) ?_
   intro w1 hB1 hg1 hz1
   have hg := grownBy_trans (grownBy_drew w (some g)) hg1
   refine wl_nil (rk_seq ?_)
   refine rk_draw (id := 8) (none) [0, 1, 2, 4, 0, 0, 32, 64, 128, 280, 1023, 2047] [0, 1, 3, 7, 0, 0, 32, 96, 224, 511, 1023, 2047] 0 0 [(.p, 0), (.p, 1), (.p, 2), (.r, 3), (.p, 4), (.p, 5), (.p, 6), (.p, 7), (.r, 8), (.p, 9), (.p, 10), (.p, 11)] (by kernel_rfl) (by kernel_rfl) (by kernel_rfl) (by kernel_rfl) (by kernel_rfl) ?_
   refine zm rfl ?_
   refine zp (o_nil rfl) ?_
   refine zp (o_faddr (s := 119) (i := 1) (off := 1) Tryz.underlying119 rfl Tryz.sizeOf39 rfl rfl rfl) ?_
   refine wl_r (o_loadb (t := 39) Tryz.isAgg39 rfl hB1 (by rfl)) ?_
   refine zm rfl (zm rfl ?_)
   refine zp (o_nil rfl) ?_
   refine zp (o_faddr (s := 119) (i := 2) (off := 2) Tryz.underlying119 rfl Tryz.sizeOf3 rfl rfl rfl) ?_
   refine wl_r (o_loadb (t := 3) Tryz.isAgg3 rfl hB1 (by rfl)) ?_
   refine zp (o_slice (lo := p) (hi := p + n) Tryz.underlying39 Tryz.sizeOf5 rfl rfl rfl rfl (by omega) (by omega) (by omega)) ?_
   refine za rfl (za rfl ?_)
   refine wl_nild ?_
   refine ret2 rfl rfl rfl ?_
   have hr1 := ((hr.grown hg (.inr hA)).cut (c := c) hp hc).take (k := n) (by simp; omega)
   exact ⟨grownBy_trans hg (grownBy_drew _ _), hz1, .inl ⟨rfl, by omega, ⟨A, c, by simpa using hB1.drew, (ho.kept hg (.inr hA)).drew, hc, by omega, hl, by simp⟩,
    cutA A c 1 p, c - p, by rw [Nat.add_sub_cancel_left], by omega, hr1.drew, by rw [blk_cutA]; exact hA⟩⟩

theorem C_fail {g : Nat} {l : List UInt8} {p e : Nat} {qi ei : Int} (q e' : Nat) (hqi : qi = q) (hei : ei = e') (w : World) (hR : RdrI w g l p e) (hq : q ≤ l.length) (he' : e' ≤ 100) :
  CallsR Tryz.prog 161 [.pointer (some ⟨g, 0, none⟩), .int .i64 qi, .int .i64 ei] w fun v w' => v = .tuple #[] ∧ w.grownBy w' (some g) ∧ w'.heap.size = w.heap.size ∧ RdrI w' g l q e' := by
 subst hqi; subst hei
 obtain ⟨A, c, hB, ho, hc, hp, hl, he⟩ := hR
 have hr := ho.rd
 have hA := ho.ne hB (by decide)
 refine callsR Tryz.func161 rfl rfl (by kernel_rfl) rfl ?_
 refine zs (zm rfl (zm rfl ?_))
 refine zp (o_nil rfl) ?_
 refine zp (o_faddr (s := 119) (i := 2) (off := 2) Tryz.underlying119 rfl Tryz.sizeOf3 rfl rfl rfl) ?_
 refine wl_store1 Tryz.sizeOf3 rfl rfl rfl hB (by simp) ?_
 intro w1 hB1 hg1 hz1
 refine wl_nil (rk_region (zm rfl (zm rfl ?_)))
 refine zp (o_nil rfl) ?_
 refine zp (o_faddr (s := 119) (i := 3) (off := 3) Tryz.underlying119 rfl Tryz.sizeOf36 rfl rfl rfl) ?_
 refine wl_store1 Tryz.sizeOf36 rfl rfl rfl hB1 (by simp) ?_
 intro w2 hB2 hg2 hz2
 have hg := grownBy_trans hg1 hg2
 refine wl_nil ?_
 refine end0 rfl ?_
 exact ⟨rfl, hg, by omega, A, c, by simpa using hB2, ho.kept hg (.inr hA), hc, hq, hl, he'⟩

theorem C_lz8 (c : UInt8) (w : World) : CallsR Tryz.prog 180 [.int .u8 (bits .xor .u8 255 c.toNat)] w fun v w' => v = .int .i64 (lead c - 1) ∧ w = w' :=
 ⟨⟨_, Tryz.func180, rfl, by kernel_rfl⟩, by
  have h1 : bits .xor .u8 255 (c.toNat : Int) = ((255 - c.toNat : Nat) : Int) := by
   have : ∀ c : Fin 256, bits .xor .u8 255 (c.val : Int) = ((255 - c.val : Nat) : Int) := by decide +kernel
   exact this ⟨c.toNat, c.toNat_lt⟩
  have h2 : 8 - (Lib.bitLen (255 - c.toNat) : Int) = lead c - 1 := by
   have : ∀ c : Fin 256, 8 - (Lib.bitLen (255 - c.val) : Int) = lead (UInt8.ofNat c.val) - 1 := by decide +kernel
   simpa using this ⟨c.toNat, c.toNat_lt⟩
  rw [h1]
  refine (Tryz.bits_LeadingZeros8 _ w (by omega) (by omega)).mono fun _ _ h => ⟨_, h.1, ?_, h.2.symm⟩
  rw [show (((255 - c.toNat : Nat) : Int)).toNat = 255 - c.toNat from by omega, h2]⟩

set_option maxHeartbeats 1000000 in
theorem C_RNumber {g : Nat} {l : List UInt8} {p e : Nat} (w : World) (hR : RdrI w g l p e) :
  CallsR Tryz.prog 160 [.pointer (some ⟨g, 0, none⟩)] w fun v w' => v = .int .u64 (rNumber (l.drop p, e)).1 ∧ w.grownBy w' (some g) ∧
   ∃ p', RdrI w' g l p' (rNumber (l.drop p, e)).2.2 ∧ (rNumber (l.drop p, e)).2.1 = l.drop p' := by
 refine callsR Tryz.func160 rfl rfl (by kernel_rfl) rfl ?_
 refine zs (za rfl (wl_nil (zs (zm rfl ?_))))
 refine wl_call rfl (C_take 1 rfl w hR) ?_
 rintro _ w13 ⟨hg13, hz13, h | h⟩
 ·obtain ⟨rfl, h1, hR13, A13, c13, rfl, hc13, hr13, hA13⟩ := h
  obtain ⟨c0, t, hdt⟩ : ∃ c0 t, l.drop p = c0 :: t := by
   cases hd : l.drop p with
   | nil => have := congrArg List.length hd; simp at this; omega
   | cons c0 t => exact ⟨c0, t, rfl⟩
  rw [hdt] at hr13 ⊢
  obtain ⟨A, c, hB, ho, hc, hp, hl, he⟩ := hR13
  have hlen : t.length + 1 = l.length - p := by have := congrArg List.length hdt; simpa using this.symm
  have hdt1 : l.drop (p + 1) = t := by rw [← List.drop_drop, hdt]; rfl
  obtain ⟨b, o, rfl, hb, hcell⟩ := hr13.at_ (by simp)
  have hc0 : w13.cell? ⟨b, o + 0, none⟩ = some (.int .u8 c0.toNat) := by simpa using hcell 0 (by simp)
  have hk := lead_bd c0
  refine zm rfl ?_
  refine zp (o_ext20 rfl) ?_
  refine zp (o_ext21 rfl) ?_
  refine za rfl (za rfl (wl_nil (rk_seq (zs (zm rfl ?_)))))
  refine zp (o_not rfl) ?_
  refine wl_nil ?_
  refine rk_false rfl ?_
  refine rk_skip (zs (zm rfl ?_))
  refine zp (o_nil rfl) ?_
  refine zp (o_faddr (s := 119) (i := 2) (off := 2) Tryz.underlying119 rfl Tryz.sizeOf3 rfl rfl rfl) ?_
  refine wl_r (o_loadb (t := 3) Tryz.isAgg3 rfl hB (by rfl)) ?_
  refine zp (o_sub rfl rfl (by omega) (by omega)) ?_
  refine za rfl (wl_nil (zs (zm rfl ?_)))
  refine zp (o_iaddr1 (j := 0) Tryz.underlying39 Tryz.sizeOf5 rfl rfl rfl (by omega)) ?_
  refine wl_r (o_load Tryz.isAgg5 rfl hc0) ?_
  refine zp (o_compl8 rfl) ?_
  refine wl_call rfl (C_lz8 c0 w13) ?_
  rintro _ w27 ⟨rfl, rfl⟩
  refine zp (o_asi (b := (lead c0 : Int)) (o_add rfl rfl (by omega) (by omega)) (by omega)) ?_
  refine za rfl (wl_nil (zs (zm rfl (zm rfl ?_))))
  refine zp (o_sub rfl rfl (by omega) (by omega)) ?_
  refine zp (o_convu64 (src := 3) (dst := 43) Tryz.underlying3 Tryz.underlying43 rfl (by omega) (by omega)) ?_
  refine wl_call rfl (C_take (lead c0 - 1) (by omega) w13 ⟨A, c, hB, ho, hc, hp, hl, he⟩) ?_
  rintro _ w34 ⟨hg34, hz34, h | h⟩
  ·obtain ⟨-, h34, hR34, A34, c34, rfl, hc34, hr34, hA34⟩ := h
   rw [hdt1] at hr34
   have htk : (t.take (lead c0 - 1)).length = lead c0 - 1 := by simp; omega
   have hc34' : w34.cell? ⟨b, o + 0, none⟩ = some (.int .u8 c0.toNat) := by
    have := (hr13.grown hg34 (.inr hA13)).at_ (by simp)
    obtain ⟨b', o', e, _, h⟩ := this
    injection e with e; injection e with e1 e2; subst e1; subst e2
    simpa using h 0 (by simp)
   refine zm rfl ?_
   refine zp (o_ext20 rfl) ?_
   refine zp (o_ext21 rfl) ?_
   refine za rfl (za rfl (wl_nil (rk_seq (zs (zm rfl ?_)))))
   refine zp (o_not rfl) ?_
   refine wl_nil ?_
   refine rk_false rfl ?_
   refine rk_skip (rk_seq ?_)
   refine rk_draw (id := 10) (none) [0, 1, 2, 0, 8, 20, 32, 127] [0, 1, 3, 0, 8, 31, 63, 127] 0 0 [(.p, 0), (.p, 1), (.r, 2), (.p, 3), (.p, 4), (.p, 5), (.p, 6), (.p, 7)] (by kernel_rfl) (by kernel_rfl) (by kernel_rfl) (by kernel_rfl) (by kernel_rfl) ?_
   refine zm rfl ?_
   refine zp (o_iaddr1 (j := 0) Tryz.underlying39 Tryz.sizeOf5 rfl rfl rfl (by omega)) ?_
   refine wl_r (o_load Tryz.isAgg5 rfl hc34') ?_
   refine zm rfl ?_
   refine zp (o_shr rfl rfl (by omega)) ?_
   refine zp (o_asi (o_and rfl rfl) (mask_byte c0)) ?_
   have hmk : c0.toNat % 2 ^ (8 - lead c0) < 256 := Nat.lt_of_le_of_lt (Nat.mod_le _ _) c0.toNat_lt
   refine zp (o_convu64 (src := 5) (dst := 43) Tryz.underlying5 Tryz.underlying43 rfl (by omega) (by omega)) ?_
   refine za rfl ?_
   refine wl_nild ?_
   refine rk_seq (zs (zm rfl ?_))
   refine zp (o_len (t := 39) Tryz.underlying39 rfl) ?_
   refine zm rfl (wl_nil (rk_block ?_))
   refine rk_loop (fun m fr w' => ∃ j v q, fr = [(0, .pointer (some ⟨g, 0, none⟩)), (5, .int .i64 q), (6, .int .i64 (lead c0)), (8, .int .u64 v), (53, .slice A34 (lead c0 - 1) c34), (54, .int .i64 (lead c0 - 1 : Nat)), (55, .int .i64 (j : Nat))] ∧
    q = (p : Int) ∧ m + j = lead c0 - 1 ∧ v = (beVal (c0.toNat % 2 ^ (8 - lead c0)) (t.take j) : Int) ∧ w' = w34.drew) (n := lead c0 - 1) (by repeat' constructor) ⟨0, _, _, rfl, by omega, by omega, by simp [beVal], rfl⟩ ?_
   rintro m fr w' ⟨j, v, q, rfl, hq, hm, hv, rfl⟩
   refine zs ?_
   refine zp (o_lt rfl rfl) ?_
   refine wl_nil (rk_seq ?_)
   refine rk_if rfl (fun h => ?_) (fun h => ?_)
   ·have hjt : j < t.length := by omega
    obtain ⟨b2, o2, rfl, -, hcell2⟩ := hr34.at_ (by intro e; rw [e] at htk; simp at htk; omega)
    have hcj : w34.drew.cell? ⟨b2, o2 + j, none⟩ = some (.int .u8 t[j].toNat) := by
     have := hcell2 j (by omega)
     rw [List.getElem_take] at this
     exact this
    have hlt := beVal_u64 c0 (t.take (j + 1)) (by rw [List.length_take]; omega)
    rw [List.take_succ_eq_append_getElem hjt, beVal_snoc] at hlt
    have h256 := Nat.lt_of_le_of_lt (Nat.le_add_right _ _) hlt
    subst hv
    refine rk_skip (rk_seq (rk_block (zs ?_)))
    refine zp (o_iaddr1 (j := j) Tryz.underlying39 Tryz.sizeOf5 rfl rfl rfl (by omega)) ?_
    refine wl_r (o_load Tryz.isAgg5 rfl hcj) ?_
    refine za rfl (wl_nil (rk_region (zm rfl ?_)))
    refine zp (o_shl rfl rfl (by omega)) ?_
    refine zm rfl ?_
    refine zp (o_convu64 (src := 5) (dst := 43) Tryz.underlying5 Tryz.underlying43 rfl (by omega) (by omega)) ?_
    refine zp (o_asi (o_or rfl rfl) (join_byte _ t[j] h256)) ?_
    refine za rfl (wl_nil ?_)
    refine rk_blk ?_
    refine rk_region ?_
    refine zp (o_add rfl rfl (by omega) (by omega)) ?_
    refine zm rfl (wl_nil ?_)
    exact rk_again (m := m - 1) (by repeat' constructor) ⟨j + 1, _, _, rfl, hq, by omega, by rw [List.take_succ_eq_append_getElem hjt, beVal_snoc], rfl⟩ (by omega)
   ·obtain rfl : j = lead c0 - 1 := by omega
    subst hv
    have hlt := beVal_u64 c0 (t.take (lead c0 - 1)) (by omega)
    have hnl : ¬ t.length + 1 < lead c0 := by omega
    have hg2 := grownBy_trans hg13 (grownBy_trans hg34 (grownBy_drew w34 _))
    refine rk_exit rfl ?_
    refine rk_seq (zs (zm rfl ?_))
    refine wl_call rfl (C_size _ _ hlt) ?_
    rintro _ w66 ⟨rfl, rfl⟩
    refine zm rfl ?_
    refine zp (o_ne rfl rfl) ?_
    refine wl_nil ?_
    refine rk_if rfl (fun h => ?_) (fun h => ?_)
    ·refine zs ?_
     refine zm rfl (zm rfl ?_)
     refine wl_call rfl (C_fail p 4 hq rfl _ hR34 (by omega) (by omega)) ?_
     rintro _ w71 ⟨rfl, hg71, hz71, hR71⟩
     refine wl_nil (zs (za rfl (wl_nil ?_)))
     refine ret1 rfl rfl ?_
     rw [rNumber_bad hnl (fun e => h (by rw [e]))]
     exact ⟨rfl, grownBy_trans hg2 hg71, p, hR71, hdt.symm⟩
    ·refine rk_skip ?_
     refine zs (zm rfl (za rfl (wl_nil ?_)))
     refine ret1 rfl rfl ?_
     rw [rNumber_ok hnl (by omega)]
     exact ⟨rfl, hg2, _, hR34, by rw [← List.drop_drop, hdt1]⟩
  ·obtain ⟨rfl, h34, hR34⟩ := h
   rw [if_pos rfl] at hR34
   have hR34' := hR34
   obtain ⟨A, c, hB, -⟩ := hR34'
   refine zm rfl ?_
   refine zp (o_ext20 rfl) ?_
   refine zp (o_ext21 rfl) ?_
   refine za rfl (za rfl (wl_nil (rk_seq (zs (zm rfl ?_)))))
   refine zp (o_not rfl) ?_
   refine wl_nil ?_
   refine rk_true rfl ?_
   refine zs (zm rfl (zm rfl (zm rfl ?_)))
   refine zp (o_nil rfl) ?_
   refine zp (o_faddr (s := 119) (i := 3) (off := 3) Tryz.underlying119 rfl Tryz.sizeOf36 rfl rfl rfl) ?_
   refine wl_r (o_loadb (t := 36) Tryz.isAgg36 rfl hB (by rfl)) ?_
   refine wl_call rfl (C_fail p 5 (by omega) rfl w34 hR34 (by omega) (by omega)) ?_
   rintro _ w45 ⟨rfl, hg45, hz45, hR45⟩
   refine wl_nil (zs (za rfl (wl_nil ?_)))
   refine ret1 rfl rfl ?_
   have := h34 rfl
   rw [rNumber_more (by omega)]
   exact ⟨rfl, grownBy_trans hg13 (grownBy_trans hg34 hg45), p, hR45, hdt.symm⟩
 ·obtain ⟨rfl, h1, hR13⟩ := h
  refine zm rfl ?_
  refine zp (o_ext20 rfl) ?_
  refine zp (o_ext21 rfl) ?_
  refine za rfl (za rfl (wl_nil (rk_seq (zs (zm rfl ?_)))))
  refine zp (o_not rfl) ?_
  refine wl_nil ?_
  refine rk_true rfl ?_
  refine zs (za rfl (wl_nil ?_))
  refine ret1 rfl rfl ?_
  by_cases he : e = 0
  ·subst he
   have hd : l.drop p = [] := List.drop_eq_nil_of_le (by have := h1 rfl; omega)
   exact ⟨by rw [hd, rNumber_nil]; rfl, hg13, p, by rw [hd, rNumber_nil]; exact hR13, by rw [hd, rNumber_nil]⟩
  ·rw [if_neg he] at hR13
   exact ⟨by rw [rNumber_err he]; rfl, hg13, p, by rw [rNumber_err he]; exact hR13, by rw [rNumber_err he]⟩

theorem RdrI.below {w w' : World} {g : Nat} {l : List UInt8} {p e : Nat} (h : RdrI w g l p e) (hb : Below w.heap.size w w') : RdrI w' g l p e := by
 obtain ⟨A, c, hB, ho, h⟩ := h
 exact ⟨A, c, hB.under hb, ho.below hb, h⟩
theorem RdrI.grown {w w' : World} {g k t : Nat} {cs : List Value} {l : List UInt8} {p e : Nat} (h : RdrI w g l p e) (hg : w.grownBy w' (some k)) (hB : Blk w k t cs) (ht : t ≠ 5) (hk : k ≠ g) : RdrI w' g l p e := by
 obtain ⟨A, c, hB', ho, h⟩ := h
 exact ⟨A, c, hB'.grown hg (by intro e; injection e with e; exact hk e.symm), ho.kept hg (.inr (ho.ne hB ht)), h⟩
theorem RdrI.blk' {w : World} {g : Nat} {l : List UInt8} {p e : Nat} (h : RdrI w g l p e) : ∃ A c, Blk w g 119 [.pointer (some ⟨g, 0, none⟩), .slice A l.length c, .int .i64 p, .int .i64 e] ∧ p ≤ l.length ∧ l.length ≤ 140737488355328 ∧ e ≤ 100 := by
 obtain ⟨A, c, hB, ho, hc, hp, hl, he⟩ := h
 exact ⟨A, c, hB, hp, hl, he⟩

theorem C_RBlock {g : Nat} {l : List UInt8} {p e : Nat} (w : World) (hR : RdrI w g l p e) :
  CallsR Tryz.prog 120 [.pointer (some ⟨g, 0, none⟩)] w fun v w' => w.grownBy w' (some g) ∧ (∃ A' c', v = .slice A' (rBlock (l.drop p, e)).1.length c' ∧ Own w' w.heap.size A' c' (rBlock (l.drop p, e)).1) ∧
   ∃ p', RdrI w' g l p' (rBlock (l.drop p, e)).2.2 ∧ (rBlock (l.drop p, e)).2.1 = l.drop p' := by
 obtain ⟨A, c, hB, hp, hl, he⟩ := hR.blk'
 refine callsR Tryz.func120 rfl rfl (by kernel_rfl) rfl ?_
 refine zs (za rfl (wl_nil (rk_seq (zs (zm rfl ?_)))))
 refine wl_call rfl (C_made w hB) ?_
 rintro _ w1 ⟨rfl, rfl⟩
 refine zp (o_not rfl) ?_
 refine wl_nil ?_
 refine rk_false rfl ?_
 refine rk_skip (zs (zm rfl ?_))
 refine zp (o_nil rfl) ?_
 refine zp (o_faddr (s := 119) (i := 2) (off := 2) Tryz.underlying119 rfl Tryz.sizeOf3 rfl rfl rfl) ?_
 refine wl_r (o_loadb (t := 3) Tryz.isAgg3 rfl hB (by rfl)) ?_
 refine za rfl (wl_nil (zs (zm rfl ?_)))
 refine wl_call rfl (C_RNumber w hR) ?_
 rintro _ w2 ⟨rfl, hg2, p2, hR2, hs2⟩
 refine za rfl (wl_nil (zs (zm rfl (zm rfl ?_))))
 refine wl_call rfl (C_take _ rfl w2 hR2) ?_
 rintro _ w3 ⟨hg3, hz3, h | h⟩
 ·obtain ⟨h0, h3, hR3, A3, c3, rfl, hc3, hr3, hA3⟩ := h
  have hb1 : (rBlock (l.drop p, e)) = ((l.drop p2).take (rNumber (l.drop p, e)).1, ((l.drop p2).drop (rNumber (l.drop p, e)).1, 0)) := by
   unfold rBlock
   rw [if_neg (by simp [h0]), if_neg (by rw [hs2, List.length_drop]; omega), hs2]
  have hlen : (rNumber (l.drop p, e)).1 = ((l.drop p2).take (rNumber (l.drop p, e)).1).length := by simp; omega
  rw [hb1]
  generalize (rNumber (l.drop p, e)).1 = n at *
  refine zm rfl ?_
  refine zp (o_ext20 rfl) ?_
  refine zp (o_ext21 rfl) ?_
  refine za rfl (za rfl (wl_nil (rk_seq (zs (zm rfl ?_)))))
  refine zp (o_not rfl) ?_
  refine wl_nil ?_
  refine rk_false rfl ?_
  refine rk_skip (zs (zm rfl ?_))
  refine wl_call rfl (C_grown c3 hlen 0 w3 hr3 (by omega) (by rw [← hlen]; omega)) ?_
  rintro _ w4 ⟨A4, c4, rfl, hown4, hb4⟩
  refine za rfl (wl_nil ?_)
  refine ret1 rfl rfl ?_
  have hgA := grownBy_trans hg2 hg3
  exact ⟨grownBy_trans hgA (grownBy_of_below hb4 _), ⟨A4, c4, rfl, hown4.base (Nat.le_trans hg2.size hg3.size)⟩, p2 + n, hR3.below hb4, by rw [List.drop_drop]⟩
 ·obtain ⟨rfl, h3, hR3⟩ := h
  have hb1 : (rBlock (l.drop p, e)) = ([], (l.drop p, if (rNumber (l.drop p, e)).2.2 = 0 then 5 else (rNumber (l.drop p, e)).2.2)) := by
   unfold rBlock
   by_cases h0 : (rNumber (l.drop p, e)).2.2 = 0
   ·rw [if_neg (by simp [h0]), if_pos (by rw [hs2, List.length_drop]; exact h3 h0), if_pos h0]
   ·rw [if_pos h0, if_neg h0]
  rw [hb1]
  generalize (if (rNumber (l.drop p, e)).2.2 = 0 then 5 else (rNumber (l.drop p, e)).2.2) = e3 at *
  obtain ⟨A3, c3, hB3, hp3, hl3, he3⟩ := hR3.blk'
  refine zm rfl ?_
  refine zp (o_ext20 rfl) ?_
  refine zp (o_ext21 rfl) ?_
  refine za rfl (za rfl (wl_nil (rk_seq (zs (zm rfl ?_)))))
  refine zp (o_not rfl) ?_
  refine wl_nil ?_
  refine rk_true rfl ?_
  refine zs (zm rfl (zm rfl (zm rfl ?_)))
  refine zp (o_nil rfl) ?_
  refine zp (o_faddr (s := 119) (i := 3) (off := 3) Tryz.underlying119 rfl Tryz.sizeOf36 rfl rfl rfl) ?_
  refine wl_r (o_loadb (t := 36) Tryz.isAgg36 rfl hB3 (by rfl)) ?_
  refine wl_call rfl (C_fail p e3 rfl rfl w3 hR3 hp he3) ?_
  rintro _ w4 ⟨rfl, hg4, hz4, hR4⟩
  refine wl_nil (zs (za rfl (wl_nil ?_)))
  refine ret1 rfl rfl ?_
  exact ⟨grownBy_trans (grownBy_trans hg2 hg3) hg4, ⟨none, 0, rfl, Own.nil _ _⟩, p, hR4, rfl⟩

theorem C_RWord {g : Nat} {l : List UInt8} {p e : Nat} (size : Int) (w : World) (hR : RdrI w g l p e) :
  CallsR Tryz.prog 39 [.pointer (some ⟨g, 0, none⟩), .int .i64 size] w fun v w' => v = .int .u64 (rWord size (l.drop p, e)).1 ∧ w.grownBy w' (some g) ∧
   ∃ p', RdrI w' g l p' (rWord size (l.drop p, e)).2.2 ∧ (rWord size (l.drop p, e)).2.1 = l.drop p' := by
 obtain ⟨hk1, hk2, hk3⟩ := clampN_bd size
 refine callsR Tryz.func39 rfl rfl (by kernel_rfl) rfl ?_
 refine zs (za rfl (wl_nil (zs (zm rfl (zm rfl ?_)))))
 refine wl_call rfl (C_clamp size w) ?_
 rintro _ w1 ⟨rfl, rfl⟩
 rw [hk3]
 refine zp (o_convu64 (src := 3) (dst := 43) Tryz.underlying3 Tryz.underlying43 rfl (by omega) (by omega)) ?_
 refine wl_call rfl (C_take (clampN size) rfl w hR) ?_
 rintro _ w3 ⟨hg3, hz3, h | h⟩
 ·obtain ⟨rfl, h3, hR3, A3, c3, rfl, hc3, hr3, hA3⟩ := h
  have hb1 : rTake (clampN size) (l.drop p, 0) = ((l.drop p).take (clampN size), ((l.drop p).drop (clampN size), 0)) := by
   unfold rTake
   rw [if_neg (by simp), if_neg (by simp; omega)]
  unfold rWord
  rw [hb1]
  have hlen : ((l.drop p).take (clampN size)).length = clampN size := by simp; omega
  generalize (l.drop p).take (clampN size) = b at *
  refine zm rfl ?_
  refine zp (o_ext20 rfl) ?_
  refine zp (o_ext21 rfl) ?_
  refine za rfl (za rfl (wl_nil (rk_seq (zs (zm rfl ?_)))))
  refine zp (o_not rfl) ?_
  refine wl_nil ?_
  refine rk_false rfl ?_
  refine rk_skip (zs (za rfl (wl_nil (rk_seq (zs (zm rfl ?_))))))
  refine zp (o_len (t := 39) Tryz.underlying39 rfl) ?_
  refine zm rfl (wl_nil (rk_block ?_))
  refine rk_loop (fun m fr w' => ∃ j v, fr = [(7, .int .u64 v), (20, .slice A3 (clampN size) c3), (21, .int .i64 (clampN size : Nat)), (22, .int .i64 (j : Nat))] ∧ m + j = clampN size ∧ v = leVal (b.take j) ∧ w' = w3) (n := clampN size) (by repeat' constructor)
   ⟨0, _, rfl, by omega, by simp [leVal], rfl⟩ ?_
  rintro m fr w' ⟨j, v, rfl, hm, rfl, rfl⟩
  refine zs ?_
  refine zp (o_lt rfl rfl) ?_
  refine wl_nil (rk_seq ?_)
  refine rk_if rfl (fun h => ?_) (fun h => ?_)
  ·have hjb : j < b.length := by omega
   obtain ⟨b2, o2, rfl, -, hcell2⟩ := hr3.at_ (by intro e; rw [e] at hlen; simp at hlen; omega)
   have hcj := hcell2 j hjb
   have htl : (b.take j).length = j := by simp; omega
   have hby := b[j].toNat_lt
   refine rk_skip (rk_seq (rk_block (zs (zm rfl ?_))))
   refine zp (o_iaddr1 (j := j) Tryz.underlying39 Tryz.sizeOf5 rfl rfl rfl (by omega)) ?_
   refine wl_r (o_load Tryz.isAgg5 rfl hcj) ?_
   refine za rfl (za rfl (wl_nil (rk_region (zm rfl (zm rfl ?_)))))
   refine zp (o_convu64 (src := 5) (dst := 43) Tryz.underlying5 Tryz.underlying43 rfl (by omega) (by omega)) ?_
   refine zm rfl ?_
   refine zp (o_mul rfl rfl (by omega) (by omega)) ?_
   refine zp (o_shl rfl rfl (by omega)) ?_
   refine wl_p (fun _ => o_asi (b := (leVal (b.take (j + 1)) : Int)) (o_or rfl rfl) (by
    rw [List.take_succ_eq_append_getElem hjb, ← or_byte (b.take j) b[j] (by omega), htl])) ?_
   refine za rfl (wl_nil ?_)
   refine rk_blk ?_
   refine rk_region ?_
   refine zp (o_add rfl rfl (by omega) (by omega)) ?_
   refine zm rfl (wl_nil ?_)
   exact rk_again (m := m - 1) (by repeat' constructor) ⟨j + 1, _, rfl, by omega, rfl, rfl⟩ (by omega)
  ·obtain rfl : j = clampN size := by omega
   rw [List.take_of_length_le (Nat.le_of_eq hlen)]
   refine rk_exit rfl ?_
   refine zs (zm rfl (za rfl (wl_nil ?_)))
   refine ret1 rfl rfl ?_
   exact ⟨rfl, hg3, _, hR3, by rw [List.drop_drop]⟩
 ·obtain ⟨rfl, h3, hR3⟩ := h
  have hb1 : rTake (clampN size) (l.drop p, e) = ([], (l.drop p, if e = 0 then 5 else e)) := by
   unfold rTake
   by_cases he : e = 0
   ·rw [if_neg (by simp [he]), if_pos (by simp; exact h3 he), if_pos he]
   ·rw [if_pos he, if_neg he]
  unfold rWord
  rw [hb1]
  refine zm rfl ?_
  refine zp (o_ext20 rfl) ?_
  refine zp (o_ext21 rfl) ?_
  refine za rfl (za rfl (wl_nil (rk_seq (zs (zm rfl ?_)))))
  refine zp (o_not rfl) ?_
  refine wl_nil ?_
  refine rk_true rfl ?_
  refine zs (za rfl (wl_nil ?_))
  refine ret1 rfl rfl ?_
  exact ⟨rfl, hg3, p, hR3, rfl⟩

theorem C_RErr {g : Nat} {l : List UInt8} {p e : Nat} (w : World) (hR : RdrI w g l p e) :
  CallsR Tryz.prog 41 [.pointer (some ⟨g, 0, none⟩)] w fun v w' => v = .int .i64 e ∧ w = w' := by
 obtain ⟨A, c, hB, hp, hl, he⟩ := hR.blk'
 refine callsR Tryz.func41 rfl rfl (by kernel_rfl) rfl ?_
 refine zs (za rfl (wl_nil (rk_seq (zs (zm rfl ?_)))))
 refine wl_call rfl (C_made w hB) ?_
 rintro _ w1 ⟨rfl, rfl⟩
 refine zp (o_not rfl) ?_
 refine wl_nil ?_
 refine rk_false rfl ?_
 refine rk_skip (zs (zm rfl ?_))
 refine zp (o_nil rfl) ?_
 refine zp (o_faddr (s := 119) (i := 3) (off := 3) Tryz.underlying119 rfl Tryz.sizeOf36 rfl rfl rfl) ?_
 refine wl_r (o_loadb (t := 36) Tryz.isAgg36 rfl hB (by rfl)) ?_
 refine za rfl (wl_nil ?_)
 refine ret1 rfl rfl ?_
 exact ⟨rfl, rfl⟩

theorem C_RLeft {g : Nat} {l : List UInt8} {p e : Nat} (w : World) (hR : RdrI w g l p e) :
  CallsR Tryz.prog 85 [.pointer (some ⟨g, 0, none⟩)] w fun v w' => v = .int .i64 (l.drop p).length ∧ w.drew = w' := by
 obtain ⟨A, c, hB, hp, hl, he⟩ := hR.blk'
 refine callsR Tryz.func85 rfl rfl (by kernel_rfl) rfl ?_
 refine zs (za rfl (wl_nil (rk_seq (zs (zm rfl ?_)))))
 refine wl_call rfl (C_made w hB) ?_
 rintro _ w1 ⟨rfl, rfl⟩
 refine zp (o_not rfl) ?_
 refine wl_nil ?_
 refine rk_false rfl ?_
 refine rk_skip (rk_seq ?_)
 refine rk_draw (id := 3) (none) [0, 1, 2, 4, 8, 0, 32, 64, 128, 272, 1023] [0, 1, 3, 7, 15, 0, 32, 96, 224, 511, 1023] 0 0 [(.p, 0), (.p, 1), (.p, 2), (.r, 3), (.p, 4), (.p, 5), (.p, 6), (.p, 7), (.r, 8), (.p, 9), (.p, 10)] (by kernel_rfl) (by kernel_rfl) (by kernel_rfl) (by kernel_rfl) (by kernel_rfl) ?_
 refine zm rfl ?_
 refine zp (o_nil rfl) ?_
 refine zp (o_faddr (s := 119) (i := 1) (off := 1) Tryz.underlying119 rfl Tryz.sizeOf39 rfl rfl rfl) ?_
 refine wl_r (o_loadb (t := 39) Tryz.isAgg39 rfl hB (by rfl)) ?_
 refine zp (o_len (t := 39) Tryz.underlying39 rfl) ?_
 refine zm rfl ?_
 refine zp (o_nil rfl) ?_
 refine zp (o_faddr (s := 119) (i := 2) (off := 2) Tryz.underlying119 rfl Tryz.sizeOf3 rfl rfl rfl) ?_
 refine wl_r (o_loadb (t := 3) Tryz.isAgg3 rfl hB (by rfl)) ?_
 refine zp (o_sub rfl rfl (by omega) (by omega)) ?_
 refine za rfl ?_
 refine wl_nild ?_
 refine ret1 rfl rfl ?_
 exact ⟨by rw [List.length_drop]; congr 1; omega, rfl⟩

theorem C_REnd {g : Nat} {l : List UInt8} {p e : Nat} (w : World) (hR : RdrI w g l p e) :
  CallsR Tryz.prog 42 [.pointer (some ⟨g, 0, none⟩)] w fun v w' => v = .int .i64 (rEnd (l.drop p, e)) ∧ Below w.heap.size w w' ∧ w'.heap.size = w.heap.size := by
 refine callsR Tryz.func42 rfl rfl (by kernel_rfl) rfl ?_
 refine zs (za rfl (wl_nil (rk_seq (zs (zm rfl ?_)))))
 refine wl_call rfl (C_RErr w hR) ?_
 rintro _ w1 ⟨rfl, rfl⟩
 refine za rfl (wl_nil (zs (zm rfl ?_)))
 refine zp (o_ne rfl rfl) ?_
 refine wl_nil ?_
 refine rk_if rfl (fun h => ?_) (fun h => ?_)
 ·refine zs ?_
  refine zm rfl (za rfl (wl_nil ?_))
  refine ret1 rfl rfl ?_
  exact ⟨by unfold rEnd; rw [if_pos (by intro h0; apply h; simp at h0; omega)], Below.refl _ _, rfl⟩
 ·refine rk_skip ?_
  refine rk_seq (zs (zm rfl ?_))
  refine wl_call rfl (C_RLeft w hR) ?_
  rintro _ w2 ⟨rfl, rfl⟩
  refine zp (o_gt rfl rfl) ?_
  refine wl_nil ?_
  have h0 : e = 0 := by omega
  refine rk_if rfl (fun h => ?_) (fun h => ?_)
  ·refine zs ?_
   refine za rfl (wl_nil ?_)
   refine ret1 rfl rfl ?_
   exact ⟨by unfold rEnd; rw [if_neg (by simp [h0]), if_pos (fun h1 : l.drop p = [] => by rw [h1] at h; exact absurd h (by simp))]; rfl, (Below.refl _ _).drew, rfl⟩
  ·refine rk_skip ?_
   refine zs (za rfl (wl_nil ?_))
   refine ret1 rfl rfl ?_
   exact ⟨by unfold rEnd; rw [if_neg (by simp [h0]), if_neg (by simpa using List.eq_nil_of_length_eq_zero (show (l.drop p).length = 0 by omega))]; rfl, (Below.refl _ _).drew, rfl⟩

theorem Tryz.build_Reader (A : Option Addr) (n c : Nat) (w : World) : (Instr.build 119 ([1].zip [Value.slice A n c]).toArray).run Tryz.prog w = .ok (.agg #[.pointer none, .slice A n c, .int .i64 0, .int .i64 0]) w := by kernel_rfl

theorem C_Read {A : Option Addr} {l : List UInt8} {k : Nat} (c : Nat) (hk : k = l.length) (w : World) (hr : Rd w A l) (hl : l.length ≤ 140737488355328) :
  CallsR Tryz.prog 38 [.slice A k c] w fun v w' => ∃ g, v = .pointer (some ⟨g, 0, none⟩) ∧ w.heap.size ≤ g ∧ g < w'.heap.size ∧ RdrI w' g l 0 0 ∧ Below w.heap.size w w' := by
 refine callsR Tryz.func38 rfl rfl (by kernel_rfl) rfl ?_
 refine zs (za rfl (wl_nil (zs (zm rfl ?_))))
 refine wl_call rfl (C_grown c hk 0 w hr (by omega) (by omega)) ?_
 rintro _ w5 ⟨A5, c5, rfl, hown5, hb5⟩
 refine zp (o_build (is := [1]) (xs := [.tmp 5]) rfl (fun _ => Tryz.build_Reader _ _ _ _)) ?_
 refine wl_box [.pointer none, .slice A5 l.length c5, .int .i64 0, .int .i64 0] rfl rfl ?_
 intro w1 hB1 hb1 hz1
 refine za rfl (wl_nil (zs (zm rfl (zm rfl ?_))))
 refine zp (o_nil rfl) ?_
 refine zp (o_faddr (s := 119) (i := 0) (off := 0) Tryz.underlying119 rfl Tryz.sizeOf81 rfl rfl rfl) ?_
 refine wl_store1 Tryz.sizeOf81 rfl rfl rfl hB1 (by simp) ?_
 intro w6 hB6 hg6 hz6
 refine wl_nil (zs (zm rfl (za rfl (wl_nil ?_))))
 refine ret1 rfl rfl ?_
 have hlt := hown5.lt
 have hs5 := hb5.size
 have hb6 : Below w5.heap.size w5 w6 := hb1.trans (below_of_grownBy hg6 (by omega) (Nat.le_refl _))
 have hsz : w6.heap.size = w5.heap.size + 1 := by rw [hz6, hz1]
 have hA5 : blk A5 ≠ some w5.heap.size := fun e => by have := hlt _ e; omega
 have hc5 : l.length ≤ c5 := by
  rcases hown5.2 with ⟨h1, h2⟩ | ⟨g', cap, cur, h1, h2, h3, h4, h5⟩
  ·omega
  ·injection h1 with _ _ h1; omega
 exact ⟨w5.heap.size, rfl, hs5, by omega, ⟨A5, c5, by simpa using hB6, (hown5.below hb6).base (by omega), hc5, by omega, hl, by omega⟩, hb5.trans (hb6.mono hs5)⟩

end Go.Proofs.YtahkeoegbjopfaaGreat
