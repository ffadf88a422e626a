/-
  Walks of the reference for sums: a piece, all pieces, bytes, what is joined.
-/
import Derived.Test.YtklijaahbahcoaaDoorMg7
namespace Go.Proofs.YtklijaahbahcoaaDoor
set_option maxRecDepth 100000
open Go.RowKit
/-- The words while they are made. -/
def wsAt (p : By) (n : Nat) (q : List UInt64) : Prop := (n ≤ 16 ∧ q = ws80 p (8 * n)) ∨ (16 ≤ n ∧ q = wx p (n - 16) ++ List.replicate (64 - (n - 16)) 0)
theorem wsAt_len {p : By} {n : Nat} {q : List UInt64} (hn : n ≤ 80) (h : wsAt p n q) : q.length = 80 := by
  rcases h with ⟨_, rfl⟩ | ⟨h1, rfl⟩
  · exact ws80_len p _
  · rw [List.length_append, wx_len, List.length_replicate]; omega
theorem wsAt_low {p : By} {n : Nat} {q : List UInt64} (hp : p.length = 128) (h : wsAt p n q) (hn : n < 16) : q = ws80 p (8 * n) := by
  rcases h with ⟨_, h⟩ | ⟨h1, h⟩
  · exact h
  · omega
theorem wsAt_high {p : By} {n : Nat} {q : List UInt64} (hp : p.length = 128) (h : wsAt p (n + 16) q) : q = wx p n ++ List.replicate (64 - n) 0 := by
  rcases h with ⟨h1, h⟩ | ⟨h1, h⟩
  · obtain rfl : n = 0 := by omega
    rw [h]; exact wx_start hp
  · rw [h, Nat.add_sub_cancel]
theorem list_stOf {l : List UInt64} (hl : l.length = 8) : (stOf l).list = l := by
  match l, hl with
  | [a, b, c, d, e, f, g, h], _ => rfl
theorem zip_comm (l m : List UInt64) : List.zipWith (· + ·) l m = List.zipWith (· + ·) m l := by
  rw [List.zipWith_comm]; congr 1; funext a b; exact UInt64.add_comm _ _
set_option maxHeartbeats 4000000 in
set_option maxRecDepth 100000 in
theorem C_refpiece {l : List UInt64} {A : Option Addr} {p : By} {r : List UInt64} {n c : Nat} (w : World) (hpr : Rd w A p) (hr : pieceU l p = r) (hl : l.length = 8) (hp : p.length = 128) (hn : n = p.length) :
    CallsR Tryd.prog 62 [.agg (vU l).toArray, .slice A n c] w fun v w' => v = .agg (vU r).toArray ∧ Below w.heap.size w w' := by
  subst hn
  have hr8 : r.length = 8 := by rw [← hr]; exact pieceU_len p hl
  obtain ⟨W, hW⟩ : ∃ W, wx p 64 = W := ⟨_, rfl⟩
  have hW8 : W.length = 80 := by rw [← hW, wx_len]
  obtain ⟨kl, hkl⟩ : ∃ kl, Kl = kl := ⟨_, rfl⟩
  have hK8 : kl.length = 80 := by rw [← hkl]; rfl
  obtain ⟨s0, hs0⟩ : ∃ s0, stOf l = s0 := ⟨_, rfl⟩
  obtain ⟨R, hR⟩ : ∃ R, rnds kl W 80 s0 = R := ⟨_, rfl⟩
  have hrr : r = List.zipWith (· + ·) l R.list := by
    rw [← hr, ← hR, ← hkl, ← hW, ← hs0]; rfl
  refine callsR Tryd.func62 rfl rfl (by kernel_rfl) rfl ?_
  have hw := Below.refl w.heap.size w
  refine rk_seq ?_
  refine rk_region ?_
  refine wl_boxg _ rfl (by rfl) ?_
  rintro g2 w2 f2 b2 i2 i2_1
  have s2 := b2.size
  replace hw := hw.trans (b2.mono hw.size)
  refine wl_allocU Tryd.underlying88 Tryd.zeroValue88 (by rfl) ?_
  rintro g4 w4 f4 b4 i4 i4_1
  have s4 := b4.size
  replace hw := hw.trans (b4.mono hw.size)
  replace f2 := f2.u b4
  refine wl_nil ?_
  refine rk_seq ?_
  refine rk_region ?_
  refine wl_call rfl (C_refK _ hkl) ?_
  rintro v18 w18 ⟨rfl, b18⟩
  have s18 := b18.size
  replace hw := hw.trans (b18.mono hw.size)
  replace f2 := f2.u b18
  replace f4 := f4.u b18
  refine wl_allocstU (q := kl) Tryd.underlying104 zv80 rfl (by first | exact Tryd.sizeOf104 | kernel_rfl) (fun _ => rfl) hK8 ?_
  rintro g5 w5 f b5 i5 j5
  have sb5 := b5.size
  replace hw := hw.trans (b5.mono hw.size)
  replace f4 := f4.u b5
  replace f2 := f2.u b5
  refine wl_nil ?_
  refine rk_seq ?_
  refine rk_region ?_
  refine wl_allocU Tryd.underlying104 Tryd.zeroValue104 (by rfl) ?_
  rintro g6 w6 f6 b6 i6 i6_1
  have s6 := b6.size
  replace hw := hw.trans (b6.mono hw.size)
  replace f2 := f2.u b6
  replace f4 := f4.u b6
  replace f := f.u b6
  refine wl_nil ?_
  refine rk_seq ?_
  refine rk_seq ?_
  refine rk_region ?_
  refine wl_p (fun _ => o_assign rfl) ?_
  refine wl_nil ?_
  refine rk_block ?_
  refine rk_joinf (fun fb fr w5 => fr = [] ++ fb.drop 1 ∧ Blk w5 g6 104 (vU W) ∧ Blk w5 g5 104 (vU kl) ∧ Blk w5 g2 88 (vU l) ∧ Blk w5 g4 88 (vU (List.replicate 8 0)) ∧ w6.heap.size ≤ w5.heap.size ∧ Below w.heap.size w w5) ?_ (fun ks hj => ?_)
  rotate_left
  · refine rk_loopf (fun fb m fr w5 => ∃ (n : Nat) (v : Int) (q : List UInt64), fr = [(7, .int .i64 v)] ++ fb.drop 1 ∧ v = n ∧ n ≤ 80 ∧ m = 80 - n ∧ wsAt p n q ∧ Blk w5 g6 104 (vU q) ∧ Blk w5 g5 104 (vU kl) ∧ Blk w5 g2 88 (vU l) ∧ Blk w5 g4 88 (vU (List.replicate 8 0)) ∧ w6.heap.size ≤ w5.heap.size ∧ Below w.heap.size w w5) (n := 80) (Fr.le_of (by kernel_rfl) (by kernel_rfl) (by repeat' constructor)) ⟨0, _, _, rfl, rfl, by omega, rfl, .inl ⟨by omega, (ws80_zero p).symm⟩, f6, f, f2, f4, Nat.le_refl _, hw⟩ ?_
    clear hw f6 f f2 f4
    rintro m fr w5 ⟨n, v, q, rfl, rfl, hn, rfl, hq, f6, f, f2, f4, hsz, hw⟩
    have shw := hw.size
    have hql := wsAt_len hn hq
    first | refine rk_frame (by simp only [List.cons_append, List.nil_append, List.drop_succ_cons, List.drop_zero]; rfl) ?_ | refine wl_frame (by simp only [List.cons_append, List.nil_append, List.drop_succ_cons, List.drop_zero]; rfl) ?_
    refine rk_seq ?_
    refine rk_seq ?_
    refine rk_region ?_
    refine wl_p (fun _ => o_move rfl) ?_
    refine wl_p (fun _ => o_lt rfl rfl) ?_
    refine wl_nil ?_
    refine rk_if rfl (fun h20 => ?_) (fun h20 => ?_)
    · refine rk_skip ?_
      refine rk_seq ?_
      refine rk_block ?_
      refine rk_seq ?_
      refine rk_seq ?_
      refine rk_region ?_
      refine wl_p (fun _ => o_move rfl) ?_
      refine wl_p (fun _ => o_lt rfl rfl) ?_
      refine wl_nil ?_
      refine rk_if rfl (fun h24 => ?_) (fun h24 => ?_)
      · have hq8 := wsAt_low hp hq (by omega)
        refine rk_seq ?_
        refine rk_seq ?_
        refine rk_region ?_
        refine wl_p (fun _ => o_assign rfl) ?_
        refine wl_nil ?_
        refine rk_block ?_
        refine rk_joinf (fun fb fr w7 => fr = [] ++ fb.drop 1 ∧ Blk w7 g6 104 (vU (ws80 p (8 * (n + 1)))) ∧ Blk w7 g5 104 (vU kl) ∧ Blk w7 g2 88 (vU l) ∧ Blk w7 g4 88 (vU (List.replicate 8 0)) ∧ w6.heap.size ≤ w7.heap.size ∧ Below w.heap.size w w7) ?_ (fun ks2 hj2 => ?_)
        rotate_left
        · refine rk_loopf (fun fb m fr w7 => ∃ (i : Nat) (v : Int) (q2 : List UInt64), fr = [(8, .int .i64 v)] ++ fb.drop 1 ∧ v = i ∧ i ≤ 8 ∧ m = 8 - i ∧ q2 = ws80 p (8 * n + i) ∧ Blk w7 g6 104 (vU q2) ∧ Blk w7 g5 104 (vU kl) ∧ Blk w7 g2 88 (vU l) ∧ Blk w7 g4 88 (vU (List.replicate 8 0)) ∧ w6.heap.size ≤ w7.heap.size ∧ Below w.heap.size w w7) (n := 8) (Fr.le_of (by kernel_rfl) (by kernel_rfl) (by repeat' constructor)) ⟨0, _, q, rfl, rfl, by omega, rfl, hq8, f6, f, f2, f4, hsz, hw⟩ ?_
          clear hw f6 f f2 f4
          rintro m fr w7 ⟨i, v, q2, rfl, rfl, hi, rfl, hq2, f6, f, f2, f4, hsz7, hw⟩
          have shw7 := hw.size
          have hq2l : q2.length = 80 := by rw [hq2]; exact ws80_len _ _
          first | refine rk_frame (by simp only [List.cons_append, List.nil_append, List.drop_succ_cons, List.drop_zero]; rfl) ?_ | refine wl_frame (by simp only [List.cons_append, List.nil_append, List.drop_succ_cons, List.drop_zero]; rfl) ?_
          refine rk_seq ?_
          refine rk_seq ?_
          refine rk_region ?_
          refine wl_p (fun _ => o_move rfl) ?_
          refine wl_p (fun _ => o_lt rfl rfl) ?_
          refine wl_nil ?_
          refine rk_if rfl (fun h26 => ?_) (fun h26 => ?_)
          · have hil : 8 * n + i < p.length := by omega
            have hnx := ws80_next hil (by rw [ws80_len]; omega)
            refine rk_skip ?_
            refine rk_seq ?_
            refine rk_block ?_
            refine rk_draw (id := 10) (none) [0, 0, 2, 4, 8, 0, 0, 64, 0, 384, 544, 1024, 2048, 4112, 16383, 32767] [0, 0, 2, 6, 14, 0, 0, 64, 0, 448, 992, 2016, 4064, 8190, 16383, 32767] 32768 0 [(.p, 0), (.p, 1), (.p, 2), (.r, 3), (.p, 4), (.p, 5), (.p, 6), (.p, 7), (.p, 8), (.p, 9), (.p, 10), (.r, 11), (.p, 12), (.p, 13), (.p, 14), (.l, 15)] (by kernel_rfl) (by kernel_rfl) (by kernel_rfl) (by kernel_rfl) (by kernel_rfl) ?_
            replace hw := hw.drew
            replace f4 := f4.d
            replace f2 := f2.d
            replace f := f.d
            replace f6 := f6.d
            refine wl_p (fun _ => o_move rfl) ?_
            refine wl_p (fun _ => o_move rfl) ?_
            refine wl_p (fun _ => (o_iaddrP (n) Tryd.underlying104 Tryd.sizeOf73 rfl rfl rfl (by omega))) ?_
            refine wl_r (o_ldU Tryd.isAgg73 rfl f6 (by omega)) ?_
            refine wl_p (fun _ => o_shlU rfl rfl (by omega) (by omega)) ?_
            refine wl_p (fun _ => o_move rfl) ?_
            refine wl_p (fun _ => o_move rfl) ?_
            refine wl_p (fun _ => o_mul rfl rfl (by omega) (by omega)) ?_
            refine wl_p (fun _ => o_move rfl) ?_
            refine wl_p (fun _ => o_add rfl rfl (by omega) (by omega)) ?_
            refine wl_p (fun _ => (o_iaddrA1 (8 * n + i) Tryd.underlying22 Tryd.sizeOf5 rfl rfl (by omega) (Reads.some_ hpr.to_Reads (by decide) (by omega)) (by omega))) ?_
            refine wl_r (o_loadB Tryd.isAgg5 rfl (hpr.u hw) (by omega)) ?_
            refine wl_p (fun _ => o_conv8U (src := 5) (dst := 73) Tryd.underlying5 Tryd.underlying73 rfl) ?_
            refine wl_p (fun _ => o_orU rfl rfl) ?_
            refine wl_p (fun _ => (o_iaddrP (n) Tryd.underlying104 Tryd.sizeOf73 rfl rfl rfl (by omega))) ?_
            refine wl_stU Tryd.sizeOf73 rfl f6 rfl (by omega) ?_
            rintro w_1 f_1 g e
            simp only [drew_size] at e
            have s := g.size
            simp only [drew_size] at s
            replace hw := hw.trans (below_of_grownBy g.g hw.size (by omega))
            replace f := f.k g.g (ap_some (by omega))
            replace f2 := f2.k g.g (ap_some (by omega))
            replace f4 := f4.k g.g (ap_some (by omega))
            clear f6
            refine wl_nild ?_
            refine rk_blk ?_
            refine rk_region ?_
            refine wl_p (fun _ => o_move rfl) ?_
            refine wl_p (fun _ => o_add rfl rfl (by omega) (by omega)) ?_
            refine wl_p (fun _ => o_assign rfl) ?_
            refine wl_nil ?_
            exact rk_againf (Fr.le_of (by kernel_rfl) (by kernel_rfl) (by repeat' constructor)) ⟨i + 1, (i : Int) + 1, _, rfl, by omega, by omega, rfl, by
              subst hq2
              have e : (8 * n + i) / 8 = n := by omega
              simp only [e] at hnx
              rw [show 8 * n + (i + 1) = 8 * n + i + 1 by omega]
              exact hnx, f_1, f, f2, f4, by omega, hw⟩ (by omega)
          · refine rk_exit rfl ?_
            obtain rfl : i = 8 := by omega
            rw [hq2] at f6
            exact rk_tof hj2 (Fr.le_of (by kernel_rfl) (by kernel_rfl) (by repeat' constructor)) ⟨rfl, f6, f, f2, f4, hsz7, hw⟩
        clear hw f6 f f2 f4
        rintro fr w7 ⟨rfl, f6, f, f2, f4, hsz7, hw⟩
        have shw7 := hw.size
        first | refine rk_frame (by simp only [List.cons_append, List.nil_append, List.drop_succ_cons, List.drop_zero]; rfl) ?_ | refine wl_frame (by simp only [List.cons_append, List.nil_append, List.drop_succ_cons, List.drop_zero]; rfl) ?_
        refine rk_exit rfl ?_
        refine rk_region ?_
        refine wl_p (fun _ => o_move rfl) ?_
        refine wl_p (fun _ => o_add rfl rfl (by omega) (by omega)) ?_
        refine wl_p (fun _ => o_assign rfl) ?_
        refine wl_nil ?_
        exact rk_againf (Fr.le_of (by kernel_rfl) (by kernel_rfl) (by repeat' constructor)) ⟨n + 1, (n : Int) + 1, _, rfl, by omega, by omega, rfl, .inl ⟨by omega, rfl⟩, f6, f, f2, f4, hsz7, hw⟩ (by omega)
      · obtain ⟨k, rfl⟩ : ∃ k, n = k + 16 := ⟨n - 16, by omega⟩
        have hq3 := wsAt_high hp hq
        have hkq : k + 16 - 16 < q.length := by omega
        have hkq2 : k + 16 - 7 < q.length := by omega
        refine rk_skip ?_
        refine rk_seq ?_
        refine rk_draw (id := 11) (none) [0, 1, 2, 4, 0, 16, 32, 64, 15, 511] [0, 1, 3, 7, 0, 16, 48, 112, 15, 511] 0 0 [(.p, 0), (.p, 1), (.p, 2), (.r, 3), (.p, 4), (.p, 5), (.p, 6), (.r, 7), (.p, 8), (.p, 9)] (by kernel_rfl) (by kernel_rfl) (by kernel_rfl) (by kernel_rfl) (by kernel_rfl) ?_
        replace hw := hw.drew
        replace f4 := f4.d
        replace f2 := f2.d
        replace f := f.d
        replace f6 := f6.d
        refine wl_p (fun _ => o_move rfl) ?_
        refine wl_p (fun _ => o_sub rfl rfl (by omega) (by omega)) ?_
        refine wl_p (fun _ => (o_iaddrP (k + 16 - 15) Tryd.underlying104 Tryd.sizeOf73 rfl rfl (by omega) (by omega))) ?_
        refine wl_r (o_ldU Tryd.isAgg73 rfl f6 (by omega)) ?_
        refine wl_p (fun _ => o_move rfl) ?_
        refine wl_p (fun _ => o_sub rfl rfl (by omega) (by omega)) ?_
        refine wl_p (fun _ => (o_iaddrP (k + 16 - 2) Tryd.underlying104 Tryd.sizeOf73 rfl rfl (by omega) (by omega))) ?_
        refine wl_r (o_ldU Tryd.isAgg73 rfl f6 (by omega)) ?_
        refine wl_p (fun _ => o_assign rfl) ?_
        refine wl_p (fun _ => o_assign rfl) ?_
        refine wl_nild ?_
        refine rk_drawo (id := 12) (none) [0, 0, 2, 4, 8, 0, 32, 0, 192, 320, 0, 1024, 2560, 4112, 0, 16384, 32768, 65536, 139264, 0, 524544, 0, 3145728, 5242880, 0, 16777216, 41943040, 67371008, 268435455, 536870911] [0, 0, 2, 6, 14, 0, 32, 0, 224, 480, 0, 1024, 4064, 8190, 0, 16384, 49152, 114688, 262142, 0, 524768, 0, 3670496, 7864800, 0, 16777216, 66585056, 134217726, 268435455, 536870911] 542114112 5243200 [0, 1, 2, 3, 4, 5, 7, 10, 11, 14, 15, 16, 17, 19, 21, 24, 25, 6, 8, 9, 12, 13, 18, 20, 22, 23, 26, 27, 28, 29] [(.p, 0), (.p, 1), (.p, 2), (.p, 3), (.s, 4), (.p, 5), (.p, 7), (.p, 10), (.p, 11), (.p, 14), (.p, 15), (.p, 16), (.s, 17), (.p, 19), (.p, 21), (.p, 24), (.p, 25), (.c, 6), (.c, 8), (.p, 9), (.p, 12), (.p, 13), (.p, 18), (.c, 20), (.c, 22), (.p, 23), (.p, 26), (.p, 27), (.p, 28), (.l, 29)] (by kernel_rfl) (by kernel_rfl) (by kernel_rfl) (by kernel_rfl) (by kernel_rfl) ?_
        dsimp only [inOrder, nthOp]
        replace hw := hw.drew
        replace f6 := f6.d
        replace f := f.d
        replace f2 := f2.d
        replace f4 := f4.d
        refine wl_p (fun _ => o_move rfl) ?_
        refine wl_p (fun _ => o_move rfl) ?_
        refine wl_p (fun _ => o_sub rfl rfl (by omega) (by omega)) ?_
        refine wl_p (fun _ => (o_iaddrP (k + 16 - 16) Tryd.underlying104 Tryd.sizeOf73 rfl rfl (by omega) (by omega))) ?_
        refine wl_s (fun _ hk => (o_ldU Tryd.isAgg73 rfl (f6.u (below_of_grown_none hk)) hkq)) ?_
        refine wl_p (fun _ => o_move rfl) ?_
        refine wl_p (fun _ => o_move rfl) ?_
        refine wl_p (fun _ => o_move rfl) ?_
        refine wl_p (fun _ => o_shrU rfl rfl (by omega) (by omega)) ?_
        refine wl_p (fun _ => o_move rfl) ?_
        refine wl_p (fun _ => o_sub rfl rfl (by omega) (by omega)) ?_
        refine wl_p (fun _ => (o_iaddrP (k + 16 - 7) Tryd.underlying104 Tryd.sizeOf73 rfl rfl (by omega) (by omega))) ?_
        refine wl_s (fun _ hk => (o_ldU Tryd.isAgg73 rfl (f6.u (below_of_grown_none hk)) hkq2)) ?_
        refine wl_p (fun _ => o_move rfl) ?_
        refine wl_p (fun _ => o_move rfl) ?_
        refine wl_p (fun _ => o_move rfl) ?_
        refine wl_p (fun _ => o_shrU rfl rfl (by omega) (by omega)) ?_
        refine wl_call rfl (C_refrot _ (by omega) (by omega)) ?_ (hq := .inr fun _ _ h => grown_of_below h.2 _)
        rintro v58 w58 ⟨rfl, b58⟩
        simp only [drew_size] at b58
        have s58 := b58.size
        simp only [drew_size] at s58
        replace hw := hw.trans (b58.mono hw.size)
        replace f4 := f4.u b58
        replace f2 := f2.u b58
        replace f := f.u b58
        replace f6 := f6.u b58
        refine wl_call rfl (C_refrot _ (by omega) (by omega)) ?_ (hq := .inr fun _ _ h => grown_of_below h.2 _)
        rintro v60 w60 ⟨rfl, b60⟩
        have s60 := b60.size
        replace hw := hw.trans (b60.mono hw.size)
        replace f6 := f6.u b60
        replace f := f.u b60
        replace f2 := f2.u b60
        replace f4 := f4.u b60
        refine wl_p (fun _ => o_xorU rfl rfl) ?_
        refine wl_p (fun _ => o_xorU rfl rfl) ?_
        refine wl_p (fun _ => o_addU rfl rfl) ?_
        refine wl_p (fun _ => o_addU rfl rfl) ?_
        refine wl_call rfl (C_refrot _ (by omega) (by omega)) ?_ (hq := .inr fun _ _ h => grown_of_below h.2 _)
        rintro v72 w72 ⟨rfl, b72⟩
        have s72 := b72.size
        replace hw := hw.trans (b72.mono hw.size)
        replace f4 := f4.u b72
        replace f2 := f2.u b72
        replace f := f.u b72
        replace f6 := f6.u b72
        refine wl_call rfl (C_refrot _ (by omega) (by omega)) ?_ (hq := .inr fun _ _ h => grown_of_below h.2 _)
        rintro v74 w74 ⟨rfl, b74⟩
        have s74 := b74.size
        replace hw := hw.trans (b74.mono hw.size)
        replace f6 := f6.u b74
        replace f := f.u b74
        replace f2 := f2.u b74
        replace f4 := f4.u b74
        refine wl_p (fun _ => o_xorU rfl rfl) ?_
        refine wl_p (fun _ => o_xorU rfl rfl) ?_
        refine wl_p (fun _ => o_addU rfl rfl) ?_
        refine wl_p (fun _ => (o_iaddrP (k + 16) Tryd.underlying104 Tryd.sizeOf73 rfl rfl rfl (by omega))) ?_
        refine wl_stU Tryd.sizeOf73 rfl f6 rfl (by omega) ?_
        rintro w_1 f_1 g e
        have s := g.size
        replace hw := hw.trans (below_of_grownBy g.g hw.size (by omega))
        replace f4 := f4.k g.g (ap_some (by omega))
        replace f2 := f2.k g.g (ap_some (by omega))
        replace f := f.k g.g (ap_some (by omega))
        clear f6
        refine wl_nild ?_
        refine rk_blk ?_
        refine rk_region ?_
        refine wl_p (fun _ => o_move rfl) ?_
        refine wl_p (fun _ => o_add rfl rfl (by omega) (by omega)) ?_
        refine wl_p (fun _ => o_assign rfl) ?_
        refine wl_nil ?_
        exact rk_againf (Fr.le_of (by kernel_rfl) (by kernel_rfl) (by repeat' constructor)) ⟨k + 16 + 1, ((k + 16 : Nat) : Int) + 1, _, rfl, by omega, by omega, rfl, .inr ⟨by omega, by
          rw [show k + 16 + 1 - 16 = k + 1 by omega]
          exact sched_next (by omega) hq3 hkq (by omega) hkq2 (by omega)⟩, f_1, f, f2, f4, by omega, hw⟩ (by omega)
    · refine rk_exit rfl ?_
      obtain rfl : n = 80 := by omega
      have hqW := wsAt_high (n := 64) hp hq
      rw [hqW, hW, Nat.sub_self, List.replicate_zero, List.append_nil] at f6
      exact rk_tof hj (Fr.le_of (by kernel_rfl) (by kernel_rfl) (by repeat' constructor)) ⟨rfl, f6, f, f2, f4, hsz, hw⟩
  clear hw f6 f f2 f4
  rintro fr w5 ⟨rfl, f6, f, f2, f4, hsz, hw⟩
  have shw := hw.size
  first | refine rk_frame (by simp only [List.cons_append, List.nil_append, List.drop_succ_cons, List.drop_zero]; rfl) ?_ | refine wl_frame (by simp only [List.cons_append, List.nil_append, List.drop_succ_cons, List.drop_zero]; rfl) ?_
  refine rk_seq ?_
  refine rk_region ?_
  refine wl_r (o_ldUa Tryd.isAgg88 Tryd.sizeOf88 rfl f2 hl) ?_
  refine wl_allocU Tryd.underlying88 Tryd.zeroValue88 (by rfl) ?_
  rintro g11 w11 f11 b11 i11 i11_1
  have sb11 := b11.size
  replace hw := hw.trans (b11.mono hw.size)
  replace f4 := f4.u b11
  replace f2 := f2.u b11
  replace f := f.u b11
  replace f6 := f6.u b11
  refine wl_stUa Tryd.sizeOf88 rfl f11 rfl hl (by rfl) ?_
  rintro w_1 f_1 g e
  have s := g.size
  replace hw := hw.trans (below_of_grownBy g.g hw.size (by omega))
  replace f6 := f6.k g.g (ap_some (by omega))
  replace f := f.k g.g (ap_some (by omega))
  replace f2 := f2.k g.g (ap_some (by omega))
  replace f4 := f4.k g.g (ap_some (by omega))
  clear f11
  refine wl_nil ?_
  refine rk_seq ?_
  refine rk_seq ?_
  refine rk_region ?_
  refine wl_p (fun _ => o_assign rfl) ?_
  refine wl_nil ?_
  refine rk_block ?_
  refine rk_joinf (fun fb fr w7 => ∃ sl, fr = [] ++ fb.drop 1 ∧ sl.length = 8 ∧ stOf sl = R ∧ Blk w7 g11 88 (vU sl) ∧ Blk w7 g6 104 (vU W) ∧ Blk w7 g5 104 (vU kl) ∧ Blk w7 g2 88 (vU l) ∧ Blk w7 g4 88 (vU (List.replicate 8 0)) ∧ w_1.heap.size ≤ w7.heap.size ∧ Below w.heap.size w w7) ?_ (fun ks hj => ?_)
  rotate_left
  · refine rk_loopf (fun fb m fr w7 => ∃ (i : Nat) (v : Int) (sl : List UInt64), fr = [(12, .int .i64 v)] ++ fb.drop 1 ∧ v = i ∧ i ≤ 80 ∧ m = 80 - i ∧ sl.length = 8 ∧ stOf sl = rnds kl W i s0 ∧ Blk w7 g11 88 (vU sl) ∧ Blk w7 g6 104 (vU W) ∧ Blk w7 g5 104 (vU kl) ∧ Blk w7 g2 88 (vU l) ∧ Blk w7 g4 88 (vU (List.replicate 8 0)) ∧ w_1.heap.size ≤ w7.heap.size ∧ Below w.heap.size w w7) (n := 80) (Fr.le_of (by kernel_rfl) (by kernel_rfl) (by repeat' constructor)) ⟨0, _, l, rfl, rfl, by omega, rfl, hl, hs0, f_1, f6, f, f2, f4, Nat.le_refl _, hw⟩ ?_
    clear hw f_1 f6 f f2 f4
    rintro m fr w7 ⟨i, v, sl, rfl, rfl, hi, rfl, hsl, hss, f11, f6, f, f2, f4, hsz7, hw⟩
    have shw7 := hw.size
    first | refine rk_frame (by simp only [List.cons_append, List.nil_append, List.drop_succ_cons, List.drop_zero]; rfl) ?_ | refine wl_frame (by simp only [List.cons_append, List.nil_append, List.drop_succ_cons, List.drop_zero]; rfl) ?_
    refine rk_seq ?_
    refine rk_seq ?_
    refine rk_region ?_
    refine wl_p (fun _ => o_move rfl) ?_
    refine wl_p (fun _ => o_lt rfl rfl) ?_
    refine wl_nil ?_
    refine rk_if rfl (fun h83 => ?_) (fun h83 => ?_)
    · have hik : i < kl.length := by omega
      have hiW : i < W.length := by omega
      have hnx := rnds_next hss.symm.symm hik hiW
      have h1 : 1 < sl.length := by omega
      have h2 : 2 < sl.length := by omega
      have h5 : 5 < sl.length := by omega
      have h6 : 6 < sl.length := by omega
      have h7 : 7 < sl.length := by omega
      refine rk_skip ?_
      refine rk_seq ?_
      refine rk_block ?_
      refine rk_seq ?_
      refine rk_draw (id := 17) (none) [0, 1, 0, 4, 3, 31] [0, 1, 0, 4, 3, 31] 0 0 [(.p, 0), (.r, 1), (.p, 2), (.r, 3), (.p, 4), (.p, 5)] (by kernel_rfl) (by kernel_rfl) (by kernel_rfl) (by kernel_rfl) (by kernel_rfl) ?_
      replace hw := hw.drew
      replace f4 := f4.d
      replace f2 := f2.d
      replace f := f.d
      replace f6 := f6.d
      replace f11 := f11.d
      refine wl_p (fun _ => (o_iaddrP (0) Tryd.underlying88 Tryd.sizeOf73 rfl rfl (by omega) (by omega))) ?_
      refine wl_r (o_ldU Tryd.isAgg73 rfl f11 (by omega)) ?_
      refine wl_p (fun _ => (o_iaddrP (4) Tryd.underlying88 Tryd.sizeOf73 rfl rfl (by omega) (by omega))) ?_
      refine wl_r (o_ldU Tryd.isAgg73 rfl f11 (by omega)) ?_
      refine wl_p (fun _ => o_assign rfl) ?_
      refine wl_p (fun _ => o_assign rfl) ?_
      refine wl_nild ?_
      refine rk_seq ?_
      refine rk_drawo (id := 18) (none) [0, 1, 0, 4, 0, 24, 40, 0, 160, 320, 514, 0, 0, 4096, 10240, 0, 32768, 0, 131072, 327680, 540672, 1049600, 0, 4194304, 8388608, 18874368, 0, 67108864, 134217728, 301989888, 1073741823] [0, 1, 0, 4, 0, 28, 60, 0, 188, 508, 1023, 0, 0, 4096, 14336, 0, 32768, 0, 131072, 491520, 1046528, 2097151, 0, 4194304, 12582912, 33554431, 0, 67108864, 201326592, 536870911, 1073741823] 296 296 [0, 1, 2, 4, 7, 11, 12, 13, 14, 15, 16, 17, 18, 19, 20, 22, 23, 24, 26, 27, 28, 3, 5, 6, 8, 9, 10, 21, 25, 29, 30] [(.p, 0), (.s, 1), (.p, 2), (.p, 4), (.p, 7), (.p, 11), (.p, 12), (.s, 13), (.p, 14), (.p, 15), (.p, 16), (.p, 17), (.s, 18), (.p, 19), (.p, 20), (.p, 22), (.p, 23), (.s, 24), (.p, 26), (.p, 27), (.s, 28), (.c, 3), (.c, 5), (.p, 6), (.c, 8), (.p, 9), (.p, 10), (.p, 21), (.p, 25), (.p, 29), (.p, 30)] (by kernel_rfl) (by kernel_rfl) (by kernel_rfl) (by kernel_rfl) (by kernel_rfl) ?_
      dsimp only [inOrder, nthOp]
      replace hw := hw.drew
      replace f11 := f11.d
      replace f6 := f6.d
      replace f := f.d
      replace f2 := f2.d
      replace f4 := f4.d
      refine wl_p (fun _ => (o_iaddrP (7) Tryd.underlying88 Tryd.sizeOf73 rfl rfl (by omega) (by omega))) ?_
      refine wl_s (fun _ hk => (o_ldU Tryd.isAgg73 rfl (f11.u (below_of_grown_none hk)) h7)) ?_
      refine wl_p (fun _ => o_move rfl) ?_
      refine wl_p (fun _ => o_move rfl) ?_
      refine wl_p (fun _ => o_move rfl) ?_
      refine wl_p (fun _ => o_move rfl) ?_
      refine wl_p (fun _ => (o_iaddrP (5) Tryd.underlying88 Tryd.sizeOf73 rfl rfl (by omega) (by omega))) ?_
      refine wl_s (fun _ hk => (o_ldU Tryd.isAgg73 rfl (f11.u (below_of_grown_none hk)) h5)) ?_
      refine wl_p (fun _ => o_andU rfl rfl) ?_
      refine wl_p (fun _ => o_move rfl) ?_
      refine wl_p (fun _ => o_notU rfl) ?_
      refine wl_p (fun _ => (o_iaddrP (6) Tryd.underlying88 Tryd.sizeOf73 rfl rfl (by omega) (by omega))) ?_
      refine wl_s (fun _ hk => (o_ldU Tryd.isAgg73 rfl (f11.u (below_of_grown_none hk)) h6)) ?_
      refine wl_p (fun _ => o_andU rfl rfl) ?_
      refine wl_p (fun _ => o_xorU rfl rfl) ?_
      refine wl_p (fun _ => o_move rfl) ?_
      refine wl_p (fun _ => (o_iaddrP (i) Tryd.underlying104 Tryd.sizeOf73 rfl rfl rfl (by omega))) ?_
      refine wl_s (fun _ hk => (o_ldU Tryd.isAgg73 rfl (f.u (below_of_grown_none hk)) hik)) ?_
      refine wl_p (fun _ => o_move rfl) ?_
      refine wl_p (fun _ => (o_iaddrP (i) Tryd.underlying104 Tryd.sizeOf73 rfl rfl rfl (by omega))) ?_
      refine wl_s (fun _ hk => (o_ldU Tryd.isAgg73 rfl (f6.u (below_of_grown_none hk)) hiW)) ?_
      refine wl_call rfl (C_refrot _ (by omega) (by omega)) ?_ (hq := .inr fun _ _ h => grown_of_below h.2 _)
      rintro v93 w93 ⟨rfl, b93⟩
      simp only [drew_size] at b93
      have s93 := b93.size
      simp only [drew_size] at s93
      replace hw := hw.trans (b93.mono hw.size)
      replace f4 := f4.u b93
      replace f2 := f2.u b93
      replace f := f.u b93
      replace f6 := f6.u b93
      replace f11 := f11.u b93
      refine wl_call rfl (C_refrot _ (by omega) (by omega)) ?_ (hq := .inr fun _ _ h => grown_of_below h.2 _)
      rintro v95 w95 ⟨rfl, b95⟩
      have s95 := b95.size
      replace hw := hw.trans (b95.mono hw.size)
      replace f11 := f11.u b95
      replace f6 := f6.u b95
      replace f := f.u b95
      replace f2 := f2.u b95
      replace f4 := f4.u b95
      refine wl_p (fun _ => o_xorU rfl rfl) ?_
      refine wl_call rfl (C_refrot _ (by omega) (by omega)) ?_ (hq := .inr fun _ _ h => grown_of_below h.2 _)
      rintro v98 w98 ⟨rfl, b98⟩
      have s98 := b98.size
      replace hw := hw.trans (b98.mono hw.size)
      replace f4 := f4.u b98
      replace f2 := f2.u b98
      replace f := f.u b98
      replace f6 := f6.u b98
      replace f11 := f11.u b98
      refine wl_p (fun _ => o_xorU rfl rfl) ?_
      refine wl_p (fun _ => o_addU rfl rfl) ?_
      refine wl_p (fun _ => o_addU rfl rfl) ?_
      refine wl_p (fun _ => o_addU rfl rfl) ?_
      refine wl_p (fun _ => o_addU rfl rfl) ?_
      refine wl_p (fun _ => o_assign rfl) ?_
      obtain ⟨T1, hT1⟩ : ∃ T1, sl[7] + (rotU sl[4] (-14) ^^^ rotU sl[4] (-18) ^^^ rotU sl[4] (-41)) + (sl[4] &&& sl[5] ^^^ ~~~sl[4] &&& sl[6]) + kl[i] + W[i] = T1 := ⟨_, rfl⟩
      rw [hT1]
      refine wl_nild ?_
      refine rk_seq ?_
      refine rk_drawo (id := 19) (none) [0, 1, 0, 6, 10, 0, 40, 80, 0, 0, 512, 1280, 0, 0, 8192, 20480, 34816, 0, 131072, 0, 524288, 1310720, 2162688, 4194432, 16777215] [0, 1, 0, 7, 15, 0, 47, 127, 0, 0, 512, 1792, 0, 0, 8192, 28672, 65280, 0, 131072, 0, 524288, 1966080, 4194048, 8388607, 16777215] 74 74 [0, 2, 5, 8, 9, 10, 11, 12, 13, 14, 15, 16, 17, 18, 19, 20, 21, 22, 1, 3, 4, 6, 7, 23, 24] [(.p, 0), (.p, 2), (.p, 5), (.p, 8), (.p, 9), (.s, 10), (.p, 11), (.p, 12), (.p, 13), (.s, 14), (.p, 15), (.p, 16), (.p, 17), (.s, 18), (.p, 19), (.s, 20), (.p, 21), (.p, 22), (.c, 1), (.c, 3), (.p, 4), (.c, 6), (.p, 7), (.p, 23), (.p, 24)] (by kernel_rfl) (by kernel_rfl) (by kernel_rfl) (by kernel_rfl) (by kernel_rfl) ?_
      dsimp only [inOrder, nthOp]
      replace hw := hw.drew
      replace f11 := f11.d
      replace f6 := f6.d
      replace f := f.d
      replace f2 := f2.d
      replace f4 := f4.d
      refine wl_p (fun _ => o_move rfl) ?_
      refine wl_p (fun _ => o_move rfl) ?_
      refine wl_p (fun _ => o_move rfl) ?_
      refine wl_p (fun _ => o_move rfl) ?_
      refine wl_p (fun _ => (o_iaddrP (1) Tryd.underlying88 Tryd.sizeOf73 rfl rfl (by omega) (by omega))) ?_
      refine wl_s (fun _ hk => (o_ldU Tryd.isAgg73 rfl (f11.u (below_of_grown_none hk)) h1)) ?_
      refine wl_p (fun _ => o_andU rfl rfl) ?_
      refine wl_p (fun _ => o_move rfl) ?_
      refine wl_p (fun _ => (o_iaddrP (2) Tryd.underlying88 Tryd.sizeOf73 rfl rfl (by omega) (by omega))) ?_
      refine wl_s (fun _ hk => (o_ldU Tryd.isAgg73 rfl (f11.u (below_of_grown_none hk)) h2)) ?_
      refine wl_p (fun _ => o_andU rfl rfl) ?_
      refine wl_p (fun _ => o_xorU rfl rfl) ?_
      refine wl_p (fun _ => (o_iaddrP (1) Tryd.underlying88 Tryd.sizeOf73 rfl rfl (by omega) (by omega))) ?_
      refine wl_s (fun _ hk => (o_ldU Tryd.isAgg73 rfl (f11.u (below_of_grown_none hk)) h1)) ?_
      refine wl_p (fun _ => (o_iaddrP (2) Tryd.underlying88 Tryd.sizeOf73 rfl rfl (by omega) (by omega))) ?_
      refine wl_s (fun _ hk => (o_ldU Tryd.isAgg73 rfl (f11.u (below_of_grown_none hk)) h2)) ?_
      refine wl_p (fun _ => o_andU rfl rfl) ?_
      refine wl_p (fun _ => o_xorU rfl rfl) ?_
      refine wl_call rfl (C_refrot _ (by omega) (by omega)) ?_ (hq := .inr fun _ _ h => grown_of_below h.2 _)
      rintro v121 w121 ⟨rfl, b121⟩
      simp only [drew_size] at b121
      have s121 := b121.size
      simp only [drew_size] at s121
      replace hw := hw.trans (b121.mono hw.size)
      replace f4 := f4.u b121
      replace f2 := f2.u b121
      replace f := f.u b121
      replace f6 := f6.u b121
      replace f11 := f11.u b121
      refine wl_call rfl (C_refrot _ (by omega) (by omega)) ?_ (hq := .inr fun _ _ h => grown_of_below h.2 _)
      rintro v123 w123 ⟨rfl, b123⟩
      have s123 := b123.size
      replace hw := hw.trans (b123.mono hw.size)
      replace f11 := f11.u b123
      replace f6 := f6.u b123
      replace f := f.u b123
      replace f2 := f2.u b123
      replace f4 := f4.u b123
      refine wl_p (fun _ => o_xorU rfl rfl) ?_
      refine wl_call rfl (C_refrot _ (by omega) (by omega)) ?_ (hq := .inr fun _ _ h => grown_of_below h.2 _)
      rintro v126 w126 ⟨rfl, b126⟩
      have s126 := b126.size
      replace hw := hw.trans (b126.mono hw.size)
      replace f4 := f4.u b126
      replace f2 := f2.u b126
      replace f := f.u b126
      replace f6 := f6.u b126
      replace f11 := f11.u b126
      refine wl_p (fun _ => o_xorU rfl rfl) ?_
      refine wl_p (fun _ => o_addU rfl rfl) ?_
      refine wl_p (fun _ => o_assign rfl) ?_
      obtain ⟨T2, hT2⟩ : ∃ T2, (rotU sl[0] (-28) ^^^ rotU sl[0] (-34) ^^^ rotU sl[0] (-39)) + (sl[0] &&& sl[1] ^^^ sl[0] &&& sl[2] ^^^ sl[1] &&& sl[2]) = T2 := ⟨_, rfl⟩
      rw [hT2]
      refine wl_nild ?_
      refine rk_region ?_
      refine wl_p (fun _ => o_move rfl) ?_
      refine wl_p (fun _ => o_move rfl) ?_
      refine wl_p (fun _ => o_addU rfl rfl) ?_
      refine wl_p (fun _ => o_move rfl) ?_
      refine wl_p (fun _ => (o_iaddrP (1) Tryd.underlying88 Tryd.sizeOf73 rfl rfl (by omega) (by omega))) ?_
      refine wl_r (o_ldU Tryd.isAgg73 rfl f11 (by omega)) ?_
      refine wl_p (fun _ => (o_iaddrP (2) Tryd.underlying88 Tryd.sizeOf73 rfl rfl (by omega) (by omega))) ?_
      refine wl_r (o_ldU Tryd.isAgg73 rfl f11 (by omega)) ?_
      refine wl_p (fun _ => (o_iaddrP (3) Tryd.underlying88 Tryd.sizeOf73 rfl rfl (by omega) (by omega))) ?_
      refine wl_r (o_ldU Tryd.isAgg73 rfl f11 (by omega)) ?_
      refine wl_p (fun _ => o_move rfl) ?_
      refine wl_p (fun _ => o_addU rfl rfl) ?_
      refine wl_p (fun _ => o_move rfl) ?_
      refine wl_p (fun _ => (o_iaddrP (5) Tryd.underlying88 Tryd.sizeOf73 rfl rfl (by omega) (by omega))) ?_
      refine wl_r (o_ldU Tryd.isAgg73 rfl f11 (by omega)) ?_
      refine wl_p (fun _ => (o_iaddrP (6) Tryd.underlying88 Tryd.sizeOf73 rfl rfl (by omega) (by omega))) ?_
      refine wl_r (o_ldU Tryd.isAgg73 rfl f11 (by omega)) ?_
      refine wl_p (fun _ => (o_buildga [_, _, _, _, _, _, _, _] Tryd.underlying88 Tryd.sizeOf73 Tryd.zeroValue88 (by rfl) (by rfl) rfl (by rfl) (by rfl) (fun _ => by kernel_rfl))) ?_
      obtain ⟨nl, hnl⟩ : ∃ nl, [T1 + T2, sl[0], sl[1], sl[2], sl[3] + T1, sl[4], sl[5], sl[6]] = nl := ⟨_, rfl⟩
      have hn8 : nl.length = 8 := by rw [← hnl]; rfl
      have hns : stOf nl = rnds kl W (i + 1) s0 := by rw [← hnx, stOf_eq hsl, ← hnl, ← hT1, ← hT2]; rfl
      rw [show (#[Value.int .u64 ((T1 + T2).toNat : Int), Value.int .u64 (sl[0].toNat : Int), Value.int .u64 (sl[1].toNat : Int), Value.int .u64 (sl[2].toNat : Int), Value.int .u64 ((sl[3] + T1).toNat : Int), Value.int .u64 (sl[4].toNat : Int), Value.int .u64 (sl[5].toNat : Int), Value.int .u64 (sl[6].toNat : Int)] : Array Value) = (vU nl).toArray from by rw [← hnl]; rfl]
      clear hnl hT1 hT2
      refine wl_stUa Tryd.sizeOf88 rfl f11 rfl hn8 hsl ?_
      rintro w_2 f_1 g_1 e_1
      have s_1 := g_1.size
      replace hw := hw.trans (below_of_grownBy g_1.g hw.size (by omega))
      replace f6 := f6.k g_1.g (ap_some (by omega))
      replace f := f.k g_1.g (ap_some (by omega))
      replace f2 := f2.k g_1.g (ap_some (by omega))
      replace f4 := f4.k g_1.g (ap_some (by omega))
      clear f11
      refine wl_nil ?_
      refine rk_blk ?_
      refine rk_region ?_
      refine wl_p (fun _ => o_move rfl) ?_
      refine wl_p (fun _ => o_add rfl rfl (by omega) (by omega)) ?_
      refine wl_p (fun _ => o_assign rfl) ?_
      refine wl_nil ?_
      exact rk_againf (Fr.le_of (by kernel_rfl) (by kernel_rfl) (by repeat' constructor)) ⟨i + 1, (i : Int) + 1, nl, rfl, by omega, by omega, rfl, hn8, hns, f_1, f6, f, f2, f4, by omega, hw⟩ (by omega)
    · refine rk_exit rfl ?_
      obtain rfl : i = 80 := by omega
      exact rk_tof hj (Fr.le_of (by kernel_rfl) (by kernel_rfl) (by repeat' constructor)) ⟨sl, rfl, hsl, hss.trans hR, f11, f6, f, f2, f4, hsz7, hw⟩
  clear hw f_1 f6 f f2 f4
  rintro fr w7 ⟨sl, rfl, hsl, hss, f11, f6, f, f2, f4, hsz7, hw⟩
  have shw7 := hw.size
  have hRs : R.list = sl := by rw [← hss]; exact list_stOf hsl
  have hrz : r = List.zipWith (· + ·) sl l := by
    rw [hrr, hRs]; exact zip_comm _ _
  first | refine rk_frame (by simp only [List.cons_append, List.nil_append, List.drop_succ_cons, List.drop_zero]; rfl) ?_ | refine wl_frame (by simp only [List.cons_append, List.nil_append, List.drop_succ_cons, List.drop_zero]; rfl) ?_
  refine rk_seq ?_
  refine rk_seq ?_
  refine rk_region ?_
  refine wl_p (fun _ => o_assign rfl) ?_
  refine wl_nil ?_
  refine rk_block ?_
  refine rk_joinf (fun fb fr w8 => fr = [] ++ fb.drop 1 ∧ Blk w8 g11 88 (vU r) ∧ Blk w8 g4 88 (vU (List.replicate 8 0)) ∧ w_1.heap.size ≤ w8.heap.size ∧ Below w.heap.size w w8) ?_ (fun ks hj => ?_)
  rotate_left
  · refine rk_loopf (fun fb m fr w8 => ∃ (i : Nat) (v : Int) (q : List UInt64), fr = [(17, .int .i64 v)] ++ fb.drop 1 ∧ v = i ∧ i ≤ 8 ∧ m = 8 - i ∧ q = (List.zipWith (· + ·) sl l).take i ++ sl.drop i ∧ Blk w8 g11 88 (vU q) ∧ Blk w8 g2 88 (vU l) ∧ Blk w8 g4 88 (vU (List.replicate 8 0)) ∧ w_1.heap.size ≤ w8.heap.size ∧ Below w.heap.size w w8) (n := 8) (Fr.le_of (by kernel_rfl) (by kernel_rfl) (by repeat' constructor)) ⟨0, _, _, rfl, rfl, by omega, rfl, rfl, f11, f2, f4, by omega, hw⟩ ?_
    clear hw f11 f6 f f2 f4
    rintro m fr w8 ⟨i, v, q, rfl, rfl, hi, rfl, hq, f11, f2, f4, hsz8, hw⟩
    have shw8 := hw.size
    have hql : q.length = 8 := by
      rw [hq, List.length_append, List.length_take, List.length_zipWith, List.length_drop]; omega
    first | refine rk_frame (by simp only [List.cons_append, List.nil_append, List.drop_succ_cons, List.drop_zero]; rfl) ?_ | refine wl_frame (by simp only [List.cons_append, List.nil_append, List.drop_succ_cons, List.drop_zero]; rfl) ?_
    refine rk_seq ?_
    refine rk_seq ?_
    refine rk_region ?_
    refine wl_p (fun _ => o_move rfl) ?_
    refine wl_p (fun _ => o_lt rfl rfl) ?_
    refine wl_nil ?_
    refine rk_if rfl (fun h163 => ?_) (fun h163 => ?_)
    · have hil : i < l.length := by omega
      refine rk_skip ?_
      refine rk_seq ?_
      refine rk_block ?_
      refine rk_draw (id := 24) (none) [0, 0, 2, 4, 0, 16, 32, 72, 255, 511] [0, 0, 2, 6, 0, 16, 48, 126, 255, 511] 512 0 [(.p, 0), (.p, 1), (.p, 2), (.r, 3), (.p, 4), (.p, 5), (.r, 6), (.p, 7), (.p, 8), (.l, 9)] (by kernel_rfl) (by kernel_rfl) (by kernel_rfl) (by kernel_rfl) (by kernel_rfl) ?_
      replace hw := hw.drew
      replace f4 := f4.d
      replace f2 := f2.d
      replace f11 := f11.d
      refine wl_p (fun _ => o_move rfl) ?_
      refine wl_p (fun _ => o_move rfl) ?_
      refine wl_p (fun _ => (o_iaddrP (i) Tryd.underlying88 Tryd.sizeOf73 rfl rfl rfl (by omega))) ?_
      refine wl_r (o_ldU Tryd.isAgg73 rfl f11 (by omega)) ?_
      refine wl_p (fun _ => o_move rfl) ?_
      refine wl_p (fun _ => (o_iaddrP (i) Tryd.underlying88 Tryd.sizeOf73 rfl rfl rfl (by omega))) ?_
      refine wl_r (o_ldU Tryd.isAgg73 rfl f2 (by omega)) ?_
      refine wl_p (fun _ => o_addU rfl rfl) ?_
      refine wl_p (fun _ => (o_iaddrP (i) Tryd.underlying88 Tryd.sizeOf73 rfl rfl rfl (by omega))) ?_
      refine wl_stU Tryd.sizeOf73 rfl f11 rfl (by omega) ?_
      rintro w_2 f g_1 e_1
      simp only [drew_size] at e_1
      have s_1 := g_1.size
      simp only [drew_size] at s_1
      replace hw := hw.trans (below_of_grownBy g_1.g hw.size (by omega))
      replace f2 := f2.k g_1.g (ap_some (by omega))
      replace f4 := f4.k g_1.g (ap_some (by omega))
      clear f11
      refine wl_nild ?_
      refine rk_blk ?_
      refine rk_region ?_
      refine wl_p (fun _ => o_move rfl) ?_
      refine wl_p (fun _ => o_add rfl rfl (by omega) (by omega)) ?_
      refine wl_p (fun _ => o_assign rfl) ?_
      refine wl_nil ?_
      exact rk_againf (Fr.le_of (by kernel_rfl) (by kernel_rfl) (by repeat' constructor)) ⟨i + 1, (i : Int) + 1, _, rfl, by omega, by omega, rfl, zip_next hq (by omega) (by omega) hil, f, f2, f4, by omega, hw⟩ (by omega)
    · refine rk_exit rfl ?_
      obtain rfl : i = 8 := by omega
      rw [List.take_of_length_le (by rw [List.length_zipWith]; omega), List.drop_of_length_le (by omega), List.append_nil, ← hrz] at hq
      subst hq
      exact rk_tof hj (Fr.le_of (by kernel_rfl) (by kernel_rfl) (by repeat' constructor)) ⟨rfl, f11, f4, hsz8, hw⟩
  clear hw f11 f6 f f2 f4
  rintro fr w8 ⟨rfl, f11, f4, hsz8, hw⟩
  have shw8 := hw.size
  first | refine rk_frame (by simp only [List.cons_append, List.nil_append, List.drop_succ_cons, List.drop_zero]; rfl) ?_ | refine wl_frame (by simp only [List.cons_append, List.nil_append, List.drop_succ_cons, List.drop_zero]; rfl) ?_
  refine rk_seq ?_
  refine rk_region ?_
  refine wl_r (o_ldUa Tryd.isAgg88 Tryd.sizeOf88 rfl f11 hr8) ?_
  refine wl_stUa Tryd.sizeOf88 rfl f4 rfl hr8 (by rfl) ?_
  rintro w_2 f g_1 e_1
  have s_1 := g_1.size
  replace hw := hw.trans (below_of_grownBy g_1.g hw.size (by omega))
  replace f11 := f11.k g_1.g (ap_some (by omega))
  clear f4
  refine wl_nil ?_
  refine ret_cell rfl rfl Tryd.isAgg88 Tryd.sizeOf88 f (by rw [vU_length, hr8]) ?_
  exact ⟨rfl, hw⟩
end Go.Proofs.YtklijaahbahcoaaDoor
/-
  Walks of the reference for sums: all pieces, bytes, what is joined, sums.
-/
namespace Go.Proofs.YtklijaahbahcoaaDoor
set_option maxRecDepth 100000
open Go.RowKit
theorem C_refbytes {l : List UInt64} {r : List UInt8} (w : World) (hr : bytesU l = r) (hl : l.length = 8) :
    CallsR Tryd.prog 49 [.agg (vU l).toArray] w fun v w' => v = .agg (B8 r).toArray ∧ Below w.heap.size w w' := by
  have hr64 : r.length = 64 := by rw [← hr, bytesU_len]
  refine callsR Tryd.func49 rfl rfl (by kernel_rfl) rfl ?_
  have hw := Below.refl w.heap.size w
  refine rk_seq ?_
  refine rk_region ?_
  refine wl_boxg _ rfl (by rfl) ?_
  rintro g1 w1 f1 b1 i1 i1_1
  have s1 := b1.size
  replace hw := hw.trans (b1.mono hw.size)
  refine wl_allocB Tryd.underlying80 Tryd.zeroValue80 (by rfl) ?_
  rintro g2 w2 f2 b2 i2 i2_1
  have s2 := b2.size
  replace hw := hw.trans (b2.mono hw.size)
  replace f1 := f1.u b2
  refine wl_nil ?_
  refine rk_seq ?_
  refine rk_region ?_
  refine wl_allocB Tryd.underlying80 Tryd.zeroValue80 (by rfl) ?_
  rintro g3 w3 f3 b3 i3 i3_1
  have s3 := b3.size
  replace hw := hw.trans (b3.mono hw.size)
  replace f1 := f1.u b3
  replace f2 := f2.u b3
  refine wl_nil ?_
  refine rk_seq ?_
  refine rk_seq ?_
  refine rk_region ?_
  refine wl_p (fun _ => o_assign rfl) ?_
  refine wl_nil ?_
  refine rk_block ?_
  refine rk_joinf (fun fb fr w6 => fr = [] ++ fb.drop 1 ∧ Blk w6 g3 80 (B8 r) ∧ Blk w6 g2 80 (B8 (List.replicate 64 0)) ∧ w3.heap.size ≤ w6.heap.size ∧ Below w.heap.size w w6) ?_ (fun ks hj => ?_)
  rotate_left
  · refine rk_loopf (fun fb m fr w6 => ∃ (i : Nat) (v : Int) (q : List UInt8), fr = [(4, .int .i64 v)] ++ fb.drop 1 ∧ v = i ∧ i ≤ 64 ∧ m = 64 - i ∧ q = (bytesU l).take i ++ List.replicate (64 - i) 0 ∧ Blk w6 g3 80 (B8 q) ∧ Blk w6 g1 88 (vU l) ∧ Blk w6 g2 80 (B8 (List.replicate 64 0)) ∧ w3.heap.size ≤ w6.heap.size ∧ Below w.heap.size w w6) (n := 64) (Fr.le_of (by kernel_rfl) (by kernel_rfl) (by repeat' constructor)) ⟨0, _, _, rfl, rfl, by omega, rfl, rfl, f3, f1, f2, Nat.le_refl _, hw⟩ ?_
    clear hw f2 f1 f3
    rintro m fr w6 ⟨i, v, q, rfl, rfl, hi, rfl, hq, f3, f1, f2, hsz, hw⟩
    have shw := hw.size
    have hql : q.length = 64 := by
      rw [hq, List.length_append, List.length_take, bytesU_len, List.length_replicate]; omega
    first | refine rk_frame (by simp only [List.cons_append, List.nil_append, List.drop_succ_cons, List.drop_zero]; rfl) ?_ | refine wl_frame (by simp only [List.cons_append, List.nil_append, List.drop_succ_cons, List.drop_zero]; rfl) ?_
    refine rk_seq ?_
    refine rk_seq ?_
    refine rk_region ?_
    refine wl_p (fun _ => o_move rfl) ?_
    refine wl_p (fun _ => o_lt rfl rfl) ?_
    refine wl_nil ?_
    refine rk_if rfl (fun h6 => ?_) (fun h6 => ?_)
    · refine rk_skip ?_
      refine rk_seq ?_
      refine rk_block ?_
      refine rk_region ?_
      refine wl_p (fun _ => o_move rfl) ?_
      refine wl_p (fun _ => o_move rfl) ?_
      refine wl_p (fun _ => o_quo rfl rfl (by omega) (by omega) (by omega)) ?_
      refine wl_p (fun _ => (o_iaddrP (i / 8) Tryd.underlying88 Tryd.sizeOf73 rfl rfl (by omega) (by omega))) ?_
      refine wl_r (o_ldU Tryd.isAgg73 rfl f1 (by omega)) ?_
      refine wl_p (fun _ => o_move rfl) ?_
      refine wl_p (fun _ => o_rem rfl rfl (by omega) (by omega)) ?_
      refine wl_p (fun _ => o_mul rfl rfl (by omega) (by omega)) ?_
      refine wl_p (fun _ => o_sub rfl rfl (by omega) (by omega)) ?_
      refine wl_p (fun _ => o_convu64 (src := 3) (dst := 81) Tryd.underlying3 Tryd.underlying81 rfl (by omega) (by omega)) ?_
      refine wl_p (fun _ => o_shrU rfl rfl (by omega) (by omega)) ?_
      refine wl_p (fun _ => o_convU8 (src := 73) (dst := 5) Tryd.underlying73 Tryd.underlying5 rfl) ?_
      refine wl_p (fun _ => (o_iaddrP (i) Tryd.underlying80 Tryd.sizeOf5 rfl rfl rfl (by omega))) ?_
      refine wl_stB Tryd.sizeOf5 rfl f3 rfl (by omega) ?_
      rintro w_1 f g e
      have s := g.size
      replace hw := hw.trans (below_of_grownBy g.g hw.size (by omega))
      replace f2 := f2.k g.g (ap_some (by omega))
      replace f1 := f1.k g.g (ap_some (by omega))
      clear f3
      refine wl_nil ?_
      refine rk_blk ?_
      refine rk_region ?_
      refine wl_p (fun _ => o_move rfl) ?_
      refine wl_p (fun _ => o_add rfl rfl (by omega) (by omega)) ?_
      refine wl_p (fun _ => o_assign rfl) ?_
      refine wl_nil ?_
      rw [show (56 - 8 * ((i : Int) % 8)).toNat = 56 - 8 * (i % 8) by omega] at f
      exact rk_againf (Fr.le_of (by kernel_rfl) (by kernel_rfl) (by repeat' constructor)) ⟨i + 1, (i : Int) + 1, _, rfl, by omega, by omega, rfl, bytes_next (by omega) hq (by omega), f, f1, f2, by omega, hw⟩ (by omega)
    · refine rk_exit rfl ?_
      obtain rfl : i = 64 := by omega
      rw [List.take_of_length_le (by rw [bytesU_len]; omega), Nat.sub_self, List.replicate_zero, List.append_nil, hr] at hq
      subst hq
      exact rk_tof hj (Fr.le_of (by kernel_rfl) (by kernel_rfl) (by repeat' constructor)) ⟨rfl, f3, f2, hsz, hw⟩
  clear hw f2 f1 f3
  rintro fr w6 ⟨rfl, f3, f2, hsz, hw⟩
  have shw := hw.size
  first | refine rk_frame (by simp only [List.cons_append, List.nil_append, List.drop_succ_cons, List.drop_zero]; rfl) ?_ | refine wl_frame (by simp only [List.cons_append, List.nil_append, List.drop_succ_cons, List.drop_zero]; rfl) ?_
  refine rk_seq ?_
  refine rk_region ?_
  refine wl_r (o_ldBa Tryd.isAgg80 Tryd.sizeOf80 rfl f3 hr64) ?_
  refine wl_stBa Tryd.sizeOf80 rfl f2 rfl hr64 (by rfl) ?_
  rintro w_1 f g e
  have s := g.size
  replace hw := hw.trans (below_of_grownBy g.g hw.size (by omega))
  replace f3 := f3.k g.g (ap_some (by omega))
  clear f2
  refine wl_nil ?_
  refine ret_cell rfl rfl Tryd.isAgg80 Tryd.sizeOf80 f (by rw [B8_length, hr64]) ?_
  exact ⟨rfl, hw⟩
theorem C_refjoin {A : Option Addr} {L : List By} {r : By} {n c : Nat} (w : World) (hK : RKy w A L) (hr : L.flatten = r) (hn : n = L.length) (hl : L.length ≤ 40) (hl2 : ∀ x ∈ L, x.length ≤ 4000) :
    CallsR Tryd.prog 52 [.slice A n c] w fun v w' => ∃ A' c', v = .slice A' r.length c' ∧ OwnH w' w.heap.size w'.heap.size A' c' r ∧ Below w.heap.size w w' := by
  subst hn
  have hrl : r.length ≤ 160000 := by
    have := flatten_le L 4000 hl2; rw [hr] at this; omega
  refine callsR Tryd.func52 rfl rfl (by kernel_rfl) rfl ?_
  have hw := Below.refl w.heap.size w
  refine rk_seq ?_
  refine rk_region ?_
  refine wl_p (fun _ => o_assign rfl) ?_
  refine wl_nil ?_
  refine rk_seq ?_
  refine rk_region ?_
  refine wl_p (fun _ => o_assign rfl) ?_
  refine wl_nil ?_
  refine rk_seq ?_
  refine rk_seq ?_
  refine rk_region ?_
  refine wl_p (fun _ => o_assign rfl) ?_
  refine wl_nil ?_
  refine rk_block ?_
  refine rk_joinf (fun fb fr w3 => ∃ A' c', fr = [(3, .slice A' r.length c')] ++ fb.drop 2 ∧ OwnH w3 w.heap.size w3.heap.size A' c' r ∧ Below w.heap.size w w3) ?_ (fun ks hj => ?_)
  rotate_left
  · refine rk_loopf (fun fb m fr w3 => ∃ (i : Nat) (v : Int) (A' : Option Addr) (bs : By) (c' : Nat), fr = [(4, .int .i64 v), (3, .slice A' bs.length c')] ++ fb.drop 2 ∧ v = i ∧ i ≤ L.length ∧ m = L.length - i ∧ bs = (L.take i).flatten ∧ OwnH w3 w.heap.size w3.heap.size A' c' bs ∧ Below w.heap.size w w3) (n := L.length) (Fr.le_of (by kernel_rfl) (by kernel_rfl) (by repeat' constructor)) ⟨0, _, none, [], 0, rfl, rfl, by omega, rfl, rfl, OwnH.nil_, hw⟩ ?_
    clear hw
    rintro m fr w3 ⟨i, v, A', bs, c', rfl, rfl, hi, rfl, hbs, fo, hw⟩
    have shw := hw.size
    have h1 := flatten_take_le L i
    rw [hr, ← hbs] at h1
    first | refine rk_frame (by simp only [List.cons_append, List.nil_append, List.drop_succ_cons, List.drop_zero]; rfl) ?_ | refine wl_frame (by simp only [List.cons_append, List.nil_append, List.drop_succ_cons, List.drop_zero]; rfl) ?_
    refine rk_seq ?_
    refine rk_seq ?_
    refine rk_region ?_
    refine wl_p (fun _ => o_move rfl) ?_
    refine wl_p (fun _ => o_move rfl) ?_
    refine wl_p (fun _ => o_len (t := 86) Tryd.underlying86 rfl) ?_
    refine wl_p (fun _ => o_lt rfl rfl) ?_
    refine wl_nil ?_
    refine rk_if rfl (fun h8 => ?_) (fun h8 => ?_)
    · have hil : i < L.length := by omega
      have h2 := hl2 _ (List.getElem_mem hil)
      refine rk_skip ?_
      refine rk_seq ?_
      refine rk_block ?_
      refine rk_region ?_
      refine wl_p (fun _ => o_move rfl) ?_
      refine wl_p (fun _ => o_move rfl) ?_
      refine wl_p (fun _ => o_move rfl) ?_
      refine wl_p (fun _ => (o_iaddrA1 (i) Tryd.underlying86 Tryd.sizeOf22 rfl rfl rfl (hK.some_ (by omega)) (by omega))) ?_
      refine wl_ldKy rfl hK hw (by omega) ?_
      rintro A115 c115 f15 i15
      refine wl_appB Tryd.u8 rfl fo rfl rfl (f15.u hw) rfl (by omega) hw.size ?_
      rintro A16 c16 w16 f16 g16 b16 i16
      have qf16 := f16.cap
      have s16 := g16.size
      replace hw := hw.trans (b16.mono (by omega))
      clear fo
      refine wl_p (fun _ => o_assign rfl) ?_
      refine wl_nil ?_
      refine rk_blk ?_
      refine rk_region ?_
      refine wl_p (fun _ => o_move rfl) ?_
      refine wl_p (fun _ => o_add rfl rfl (by omega) (by omega)) ?_
      refine wl_p (fun _ => o_assign rfl) ?_
      refine wl_nil ?_
      exact rk_againf (Fr.le_of (by kernel_rfl) (by kernel_rfl) (by repeat' constructor)) ⟨i + 1, (i : Int) + 1, _, _, _, rfl, by omega, by omega, rfl, by rw [flatten_take L i hil, hbs], f16, hw⟩ (by omega)
    · refine rk_exit rfl ?_
      obtain rfl : i = L.length := by omega
      rw [List.take_length, hr] at hbs
      subst hbs
      exact rk_tof hj (Fr.le_of (by kernel_rfl) (by kernel_rfl) (by repeat' constructor)) ⟨A', c', rfl, fo, hw⟩
  clear hw
  rintro fr w3 ⟨A', c', rfl, fo, hw⟩
  have shw := hw.size
  first | refine rk_frame (by simp only [List.cons_append, List.nil_append, List.drop_succ_cons, List.drop_zero]; rfl) ?_ | refine wl_frame (by simp only [List.cons_append, List.nil_append, List.drop_succ_cons, List.drop_zero]; rfl) ?_
  refine rk_seq ?_
  refine rk_region ?_
  refine wl_p (fun _ => o_move rfl) ?_
  refine wl_p (fun _ => o_assign rfl) ?_
  refine wl_nil ?_
  refine ret1 rfl rfl ?_
  exact ⟨A', c', rfl, fo, hw⟩
theorem C_refrun {l : List UInt64} {A : Option Addr} {b : By} {r : List UInt64} {n c : Nat} (w : World) (hp : Rd w A b) (hr : runU l (padU b) = r) (hl : l.length = 8) (hn : n = b.length) (hbl : b.length ≤ 200000) :
    CallsR Tryd.prog 50 [.agg (vU l).toArray, .slice A n c] w fun v w' => v = .agg (vU r).toArray ∧ Below w.heap.size w w' := by
  subst hn
  have hr8 : r.length = 8 := by rw [← hr]; exact runU_len _ hl
  obtain ⟨M, hM⟩ := padU_mul b
  obtain ⟨p, hpe⟩ : ∃ p, padU b = p := ⟨_, rfl⟩
  have hpl2 : p.length ≤ 300000 := by rw [← hpe, padU_len]; have := zeros_lt b.length; omega
  rw [hpe] at hM hr
  have hr2 : (List.range M).foldl (fun s i => pieceU s (chunkB p i)) l = r := by
    rw [← hr]; unfold runU; rw [hM, Nat.mul_div_cancel_left _ (by decide)]
  refine callsR Tryd.func50 rfl rfl (by kernel_rfl) rfl ?_
  have hw := Below.refl w.heap.size w
  refine rk_seq ?_
  refine rk_region ?_
  refine wl_boxg _ rfl (by rfl) ?_
  rintro g2 w2 f2 b2 i2 i2_1
  have s2 := b2.size
  replace hw := hw.trans (b2.mono hw.size)
  refine wl_allocU Tryd.underlying88 Tryd.zeroValue88 (by rfl) ?_
  rintro g4 w4 f4 b4 i4 i4_1
  have s4 := b4.size
  replace hw := hw.trans (b4.mono hw.size)
  replace f2 := f2.u b4
  refine wl_nil ?_
  refine rk_seq ?_
  refine rk_region ?_
  refine wl_p (fun _ => o_move rfl) ?_
  refine wl_call rfl (C_refPad _ (hp.u hw) hpe rfl (by omega)) ?_
  rintro v8 w8 ⟨A8, ⟨c8, ⟨rfl, ⟨f8, b8⟩⟩⟩⟩
  have qf8 := f8.cap
  have s8 := b8.size
  replace hw := hw.trans (b8.mono hw.size)
  replace f2 := f2.u b8
  replace f4 := f4.u b8
  refine wl_p (fun _ => o_assign rfl) ?_
  refine wl_nil ?_
  refine rk_seq ?_
  refine rk_seq ?_
  refine rk_region ?_
  refine wl_p (fun _ => o_assign rfl) ?_
  refine wl_nil ?_
  refine rk_block ?_
  refine rk_joinf (fun fb fr w3 => fr = [] ++ fb.drop 1 ∧ Blk w3 g2 88 (vU r) ∧ Blk w3 g4 88 (vU (List.replicate 8 0)) ∧ w8.heap.size ≤ w3.heap.size ∧ Below w.heap.size w w3) ?_ (fun ks hj => ?_)
  rotate_left
  · refine rk_loopf (fun fb m fr w3 => ∃ (k j : Nat) (v : Int) (q : List UInt64), fr = [(6, .int .i64 v)] ++ fb.drop 1 ∧ v = j ∧ j = 128 * k ∧ k ≤ M ∧ m = M - k ∧ q.length = 8 ∧ q = (List.range k).foldl (fun s i => pieceU s (chunkB p i)) l ∧ Blk w3 g2 88 (vU q) ∧ Blk w3 g4 88 (vU (List.replicate 8 0)) ∧ OwnH w3 w4.heap.size w8.heap.size A8 c8 p ∧ w8.heap.size ≤ w3.heap.size ∧ Below w.heap.size w w3) (n := M) (Fr.le_of (by kernel_rfl) (by kernel_rfl) (by repeat' constructor)) ⟨0, 0, _, l, rfl, rfl, rfl, by omega, rfl, hl, rfl, f2, f4, f8, Nat.le_refl _, hw⟩ ?_
    clear hw f2 f4 f8
    rintro m fr w3 ⟨k, j, v, q, rfl, rfl, hj, hk, rfl, hql, hq, f2, f4, f8, hsz, hw⟩
    have shw := hw.size
    first | refine rk_frame (by simp only [List.cons_append, List.nil_append, List.drop_succ_cons, List.drop_zero]; rfl) ?_ | refine wl_frame (by simp only [List.cons_append, List.nil_append, List.drop_succ_cons, List.drop_zero]; rfl) ?_
    refine rk_seq ?_
    refine rk_seq ?_
    refine rk_region ?_
    refine wl_p (fun _ => o_move rfl) ?_
    refine wl_p (fun _ => o_move rfl) ?_
    refine wl_p (fun _ => o_len (t := 22) Tryd.underlying22 rfl) ?_
    refine wl_p (fun _ => o_lt rfl rfl) ?_
    refine wl_nil ?_
    refine rk_if rfl (fun h12 => ?_) (fun h12 => ?_)
    · obtain ⟨r1, h1⟩ : ∃ r1, pieceU q ((p.drop j).take (j + 128 - j)) = r1 := ⟨_, rfl⟩
      have hr18 : r1.length = 8 := by rw [← h1]; exact pieceU_len _ hql
      have hc128 : ((p.drop j).take (j + 128 - j)).length = 128 := by rw [List.length_take, List.length_drop]; omega
      refine rk_skip ?_
      refine rk_seq ?_
      refine rk_block ?_
      refine rk_draw (id := 5) (none) [0, 0, 0, 0, 8, 22, 33, 127] [0, 0, 0, 0, 8, 30, 63, 127] 192 0 [(.r, 0), (.p, 1), (.p, 2), (.p, 3), (.p, 4), (.p, 5), (.l, 6), (.l, 7)] (by kernel_rfl) (by kernel_rfl) (by kernel_rfl) (by kernel_rfl) (by kernel_rfl) ?_
      replace hw := hw.drew
      replace f8 := f8.d
      replace f4 := f4.d
      replace f2 := f2.d
      refine wl_r (o_ldUa Tryd.isAgg88 Tryd.sizeOf88 rfl f2 hql) ?_
      refine wl_p (fun _ => o_move rfl) ?_
      refine wl_p (fun _ => o_move rfl) ?_
      refine wl_p (fun _ => o_move rfl) ?_
      refine wl_p (fun _ => o_add rfl rfl (by omega) (by omega)) ?_
      refine wl_slBB Tryd.u8 (j) (j + 128) rfl rfl rfl f8.to_Rd rfl rfl (by omega) (by omega) (by omega) (by omega) ?_
      rintro A20 c20 f20 i20 i20_1
      refine wl_call rfl (C_refpiece _ f20 h1 hql hc128 (by omega)) ?_
      rintro v21 w21 ⟨rfl, b21⟩
      simp only [drew_size] at b21
      have s21 := b21.size
      simp only [drew_size] at s21
      replace hw := hw.trans (b21.mono hw.size)
      replace f20 := f20.u b21
      replace f2 := f2.u b21
      replace f4 := f4.u b21
      replace f8 := f8.u b21
      refine wl_stUa Tryd.sizeOf88 rfl f2 rfl hr18 hql ?_
      rintro w_1 f g e
      have s := g.size
      replace hw := hw.trans (below_of_grownBy g.g hw.size (by omega))
      replace f8 := f8.k g.g (ap_some (by omega))
      replace f4 := f4.k g.g (ap_some (by omega))
      clear f2
      clear f20
      refine wl_nild ?_
      refine rk_blk ?_
      refine rk_region ?_
      refine wl_p (fun _ => o_move rfl) ?_
      refine wl_p (fun _ => o_add rfl rfl (by omega) (by omega)) ?_
      refine wl_p (fun _ => o_assign rfl) ?_
      refine wl_nil ?_
      exact rk_againf (Fr.le_of (by kernel_rfl) (by kernel_rfl) (by repeat' constructor)) ⟨k + 1, j + 128, (j : Int) + 128, r1, rfl, by omega, by omega, by omega, rfl, hr18, by
        rw [List.range_succ, List.foldl_append, ← hq, ← h1, hj, show 128 * k + 128 - 128 * k = 128 by omega]; rfl, f, f4, f8, by omega, hw⟩ (by omega)
    · refine rk_exit rfl ?_
      obtain rfl : k = M := by omega
      rw [hr2] at hq
      subst hq
      exact rk_tof hj (Fr.le_of (by kernel_rfl) (by kernel_rfl) (by repeat' constructor)) ⟨rfl, f2, f4, hsz, hw⟩
  clear hw f2 f4 f8
  rintro fr w3 ⟨rfl, f2, f4, hsz, hw⟩
  have shw := hw.size
  first | refine rk_frame (by simp only [List.cons_append, List.nil_append, List.drop_succ_cons, List.drop_zero]; rfl) ?_ | refine wl_frame (by simp only [List.cons_append, List.nil_append, List.drop_succ_cons, List.drop_zero]; rfl) ?_
  refine rk_seq ?_
  refine rk_region ?_
  refine wl_r (o_ldUa Tryd.isAgg88 Tryd.sizeOf88 rfl f2 hr8) ?_
  refine wl_stUa Tryd.sizeOf88 rfl f4 rfl hr8 (by rfl) ?_
  rintro w_1 f g e
  have s := g.size
  replace hw := hw.trans (below_of_grownBy g.g hw.size (by omega))
  replace f2 := f2.k g.g (ap_some (by omega))
  clear f4
  refine wl_nil ?_
  refine ret_cell rfl rfl Tryd.isAgg88 Tryd.sizeOf88 f (by rw [vU_length, hr8]) ?_
  exact ⟨rfl, hw⟩
set_option maxHeartbeats 1000000 in
set_option maxRecDepth 100000 in
theorem C_refStartShort {r : List UInt64} (w : World) (hr : Ul = r) :
    CallsR Tryd.prog 51 [] w fun v w' => v = .agg (vU r).toArray ∧ Below w.heap.size w w' := by
  have hr8 : r.length = 8 := by rw [← hr]; exact Ul_len
  have hr2 : runU Tl (padU nameB) = r := by rw [← hr]; rfl
  have hS8 : Sl.length = 8 := Sl_len
  obtain ⟨tl, htl⟩ : ∃ tl, Tl = tl := ⟨_, rfl⟩
  obtain ⟨sl, hsl⟩ : ∃ sl, Sl = sl := ⟨_, rfl⟩
  have hts : sl.map (· ^^^ 11936128518282651045) = tl := by rw [← htl, ← hsl]; rfl
  have ht8 : tl.length = 8 := by rw [← htl]; rfl
  rw [htl] at hr2
  rw [hsl] at hS8
  refine callsR Tryd.func51 rfl rfl (by kernel_rfl) rfl ?_
  have hw := Below.refl w.heap.size w
  refine rk_seq ?_
  refine rk_region ?_
  refine wl_allocU Tryd.underlying88 Tryd.zeroValue88 (by rfl) ?_
  rintro g0 w0 f0 b0 i0 i0_1
  have s0 := b0.size
  replace hw := hw.trans (b0.mono hw.size)
  refine wl_nil ?_
  refine rk_seq ?_
  refine rk_region ?_
  refine wl_call rfl (C_refStart _) ?_
  rintro v3 w3 ⟨rfl, b3⟩
  have s3 := b3.size
  replace hw := hw.trans (b3.mono hw.size)
  replace f0 := f0.u b3
  refine wl_allocU Tryd.underlying88 Tryd.zeroValue88 (by rfl) ?_
  rintro g1 w1 f1 b1 i1 i1_1
  have s1 := b1.size
  replace hw := hw.trans (b1.mono hw.size)
  replace f0 := f0.u b1
  refine wl_stUa Tryd.sizeOf88 rfl f1 rfl (by rfl) (by rfl) ?_
  rintro w_1 f g e
  have s := g.size
  replace hw := hw.trans (below_of_grownBy g.g hw.size (by omega))
  replace f0 := f0.k g.g (ap_some (by omega))
  clear f1
  refine wl_nil ?_
  refine rk_seq ?_
  refine rk_seq ?_
  refine rk_region ?_
  refine wl_p (fun _ => o_assign rfl) ?_
  refine wl_nil ?_
  refine rk_block ?_
  rw [hsl] at f
  refine rk_joinf (fun fb fr w2 => fr = [] ++ fb.drop 1 ∧ Blk w2 g1 88 (vU tl) ∧ Blk w2 g0 88 (vU (List.replicate 8 0)) ∧ w_1.heap.size ≤ w2.heap.size ∧ Below w.heap.size w w2) ?_ (fun ks hj => ?_)
  rotate_left
  · refine rk_loopf (fun fb m fr w2 => ∃ (i : Nat) (v : Int) (q : List UInt64), fr = [(2, .int .i64 v)] ++ fb.drop 1 ∧ v = i ∧ i ≤ 8 ∧ m = 8 - i ∧ q = (sl.map (· ^^^ 11936128518282651045)).take i ++ sl.drop i ∧ Blk w2 g1 88 (vU q) ∧ Blk w2 g0 88 (vU (List.replicate 8 0)) ∧ w_1.heap.size ≤ w2.heap.size ∧ Below w.heap.size w w2) (n := 8) (Fr.le_of (by kernel_rfl) (by kernel_rfl) (by repeat' constructor)) ⟨0, _, _, rfl, rfl, by omega, rfl, rfl, f, f0, Nat.le_refl _, hw⟩ ?_
    clear hw f f0
    rintro m fr w2 ⟨i, v, q, rfl, rfl, hi, rfl, hq, f, f0, hsz, hw⟩
    have shw := hw.size
    have hql : q.length = 8 := by
      rw [hq, List.length_append, List.length_take, List.length_map, List.length_drop]; omega
    first | refine rk_frame (by simp only [List.cons_append, List.nil_append, List.drop_succ_cons, List.drop_zero]; rfl) ?_ | refine wl_frame (by simp only [List.cons_append, List.nil_append, List.drop_succ_cons, List.drop_zero]; rfl) ?_
    refine rk_seq ?_
    refine rk_seq ?_
    refine rk_region ?_
    refine wl_p (fun _ => o_move rfl) ?_
    refine wl_p (fun _ => o_lt rfl rfl) ?_
    refine wl_nil ?_
    refine rk_if rfl (fun h5 => ?_) (fun h5 => ?_)
    · have hil : i < q.length := by omega
      have e1 : bits .xor .u64 (q[i].toNat : Int) 11936128518282651045 = ((q[i] ^^^ 11936128518282651045).toNat : Int) := by
        rw [UInt64.toNat_xor]; exact bits_xor_u64_nat q[i].toNat 11936128518282651045 (u64_lt _) (by decide)
      refine rk_skip ?_
      refine rk_seq ?_
      refine rk_block ?_
      refine rk_region ?_
      refine wl_p (fun _ => o_move rfl) ?_
      refine wl_p (fun _ => o_move rfl) ?_
      refine wl_p (fun _ => (o_iaddrP (i) Tryd.underlying88 Tryd.sizeOf73 rfl rfl rfl (by omega))) ?_
      refine wl_r (o_ldU Tryd.isAgg73 rfl f (by omega)) ?_
      refine wl_p (fun _ => o_xor rfl rfl) ?_
      refine wl_p (fun _ => (o_iaddrP (i) Tryd.underlying88 Tryd.sizeOf73 rfl rfl rfl (by omega))) ?_
      rw [e1]
      refine wl_stU Tryd.sizeOf73 rfl f rfl (by omega) ?_
      rintro w_2 f_1 g_1 e_1
      have s_1 := g_1.size
      replace hw := hw.trans (below_of_grownBy g_1.g hw.size (by omega))
      replace f0 := f0.k g_1.g (ap_some (by omega))
      clear f
      refine wl_nil ?_
      refine rk_blk ?_
      refine rk_region ?_
      refine wl_p (fun _ => o_move rfl) ?_
      refine wl_p (fun _ => o_add rfl rfl (by omega) (by omega)) ?_
      refine wl_p (fun _ => o_assign rfl) ?_
      refine wl_nil ?_
      exact rk_againf (Fr.le_of (by kernel_rfl) (by kernel_rfl) (by repeat' constructor)) ⟨i + 1, (i : Int) + 1, _, rfl, by omega, by omega, rfl, map_next (f := (· ^^^ 11936128518282651045)) hq hil (by omega), f_1, f0, by omega, hw⟩ (by omega)
    · refine rk_exit rfl ?_
      obtain rfl : i = 8 := by omega
      rw [List.take_of_length_le (by rw [List.length_map]; omega), List.drop_of_length_le (by omega), List.append_nil, hts] at hq
      subst hq
      exact rk_tof hj (Fr.le_of (by kernel_rfl) (by kernel_rfl) (by repeat' constructor)) ⟨rfl, f, f0, hsz, hw⟩
  clear hw f f0
  rintro fr w2 ⟨rfl, f, f0, hsz, hw⟩
  have shw := hw.size
  have hr3 : runU tl (padU [83, 72, 65, 45, 53, 49, 50, 47, 50, 53, 54]) = r := hr2
  first | refine rk_frame (by simp only [List.cons_append, List.nil_append, List.drop_succ_cons, List.drop_zero]; rfl) ?_ | refine wl_frame (by simp only [List.cons_append, List.nil_append, List.drop_succ_cons, List.drop_zero]; rfl) ?_
  refine rk_seq ?_
  refine rk_region ?_
  refine wl_r (o_ldUa Tryd.isAgg88 Tryd.sizeOf88 rfl f ht8) ?_
  refine wl_litC [83, 72, 65, 45, 53, 49, 50, 47, 50, 53, 54] Tryd.u8 Tryd.sizeOf5 Tryd.zeroValue5 (by rfl) rfl rfl (by rfl) (by rfl) (by rfl) ?_
  rintro A15 w15 f15 b15
  have s15 := b15.size
  replace hw := hw.trans (b15.mono hw.size)
  replace f0 := f0.u b15
  replace f := f.u b15
  refine wl_call rfl (C_refrun _ f15.to_Rd hr3 ht8 (by rfl) (by simp)) ?_
  rintro v17 w17 ⟨rfl, b17⟩
  have s17 := b17.size
  replace hw := hw.trans (b17.mono hw.size)
  replace f := f.u b17
  replace f0 := f0.u b17
  replace f15 := f15.u b17
  refine wl_stUa Tryd.sizeOf88 rfl f0 rfl hr8 (by rfl) ?_
  rintro w_2 f_1 g_1 e_1
  have s_1 := g_1.size
  replace hw := hw.trans (below_of_grownBy g_1.g hw.size (by omega))
  replace f15 := f15.y g_1 (by decide)
  replace f := f.k g_1.g (ap_some (by omega))
  clear f0
  refine wl_nil ?_
  refine ret_cell rfl rfl Tryd.isAgg88 Tryd.sizeOf88 f_1 (by rw [vU_length, hr8]) ?_
  exact ⟨rfl, hw⟩
set_option maxRecDepth 100000 in
theorem C_refSum {A : Option Addr} {L : List By} {r : By} {n c : Nat} (w : World) (hK : RKy w A L) (hr : (bytesU (runU Ul (padU L.flatten))).take 32 = r) (hn : n = L.length) (hL : L.length ≤ 40) (hL2 : ∀ x ∈ L, x.length ≤ 4000) :
    CallsR Tryd.prog 42 [.slice A n c] w fun v w' => v = .agg (B8 r).toArray ∧ Below w.heap.size w w' := by
  subst hn
  obtain ⟨b, hb⟩ : ∃ b, L.flatten = b := ⟨_, rfl⟩
  rw [hb] at hr
  have hbl : b.length ≤ 100000 * 2 := by
    have := flatten_le L 4000 hL2; rw [hb] at this; omega
  obtain ⟨u, hu⟩ : ∃ u, Ul = u := ⟨_, rfl⟩
  have hu8 : u.length = 8 := by rw [← hu]; exact Ul_len
  rw [hu] at hr
  obtain ⟨r1, h1⟩ : ∃ r1, runU u (padU b) = r1 := ⟨_, rfl⟩
  rw [h1] at hr
  have hr8 : r1.length = 8 := by rw [← h1]; exact runU_len _ hu8
  obtain ⟨r2, h2⟩ : ∃ r2, bytesU r1 = r2 := ⟨_, rfl⟩
  rw [h2] at hr
  have hr64 : r2.length = 64 := by rw [← h2, bytesU_len]
  have hr32 : r.length = 32 := by rw [← hr, List.length_take]; omega
  refine callsR Tryd.func42 rfl rfl (by kernel_rfl) rfl ?_
  have hw := Below.refl w.heap.size w
  refine rk_seq ?_
  refine rk_region ?_
  refine wl_allocB Tryd.underlying76 Tryd.zeroValue76 (by rfl) ?_
  rintro g2 w2 f2 b2 i2 i2_1
  have s2 := b2.size
  replace hw := hw.trans (b2.mono hw.size)
  refine wl_nil ?_
  refine rk_seq ?_
  refine rk_region ?_
  refine wl_call rfl (C_refStartShort _ hu) ?_
  rintro v5 w5 ⟨rfl, b5⟩
  have s5 := b5.size
  replace hw := hw.trans (b5.mono hw.size)
  replace f2 := f2.u b5
  refine wl_p (fun _ => o_move rfl) ?_
  refine wl_call rfl (C_refjoin _ (hK.u hw) hb rfl (by omega) (by omega)) ?_
  rintro v7 w7 ⟨A7, ⟨c7, ⟨rfl, ⟨f7, b7⟩⟩⟩⟩
  have qf7 := f7.cap
  have s7 := b7.size
  replace hw := hw.trans (b7.mono hw.size)
  replace f2 := f2.u b7
  refine wl_call rfl (C_refrun _ f7.to_Rd h1 hu8 rfl (by omega)) ?_
  rintro v8 w8 ⟨rfl, b8⟩
  have s8 := b8.size
  replace hw := hw.trans (b8.mono hw.size)
  replace f2 := f2.u b8
  replace f7 := f7.u b8
  refine wl_call rfl (C_refbytes _ h2 hr8) ?_
  rintro v9 w9 ⟨rfl, b9⟩
  have s9 := b9.size
  replace hw := hw.trans (b9.mono hw.size)
  replace f7 := f7.u b9
  replace f2 := f2.u b9
  refine wl_allocB Tryd.underlying80 Tryd.zeroValue80 (by rfl) ?_
  rintro g3 w3 f3 b3 i3 i3_1
  have s3 := b3.size
  replace hw := hw.trans (b3.mono hw.size)
  replace f2 := f2.u b3
  replace f7 := f7.u b3
  refine wl_stBa Tryd.sizeOf80 rfl f3 rfl hr64 (by rfl) ?_
  rintro w_1 f g e
  have s := g.size
  replace hw := hw.trans (below_of_grownBy g.g hw.size (by omega))
  replace f7 := f7.k g.g (ap_some (by omega))
  replace f2 := f2.k g.g (ap_some (by omega))
  clear f3
  refine wl_nil ?_
  refine rk_seq ?_
  refine rk_region ?_
  refine wl_allocB Tryd.underlying76 Tryd.zeroValue76 (by rfl) ?_
  rintro g4 w4 f4 b4 i4 i4_1
  have s4 := b4.size
  replace hw := hw.trans (b4.mono hw.size)
  replace f2 := f2.u b4
  replace f7 := f7.u b4
  replace f := f.u b4
  refine wl_nil ?_
  refine rk_seq ?_
  refine rk_draw (id := 3) (none) [0, 0, 3] [0, 0, 3] 4 0 [(.p, 0), (.p, 1), (.l, 2)] (by kernel_rfl) (by kernel_rfl) (by kernel_rfl) (by kernel_rfl) (by kernel_rfl) ?_
  replace hw := hw.drew
  replace f := f.d
  replace f7 := f7.d
  replace f2 := f2.d
  replace f4 := f4.d
  refine wl_p (fun _ => o_slice_arr (t := 76) Tryd.underlying76 Tryd.sizeOf5 rfl) ?_
  refine wl_p (fun _ => (o_slArrHi (32) Tryd.underlying80 Tryd.sizeOf5 rfl rfl (by omega) (by omega))) ?_
  try refine wl_p (fun _ => o_slArrHi 32 Tryd.underlying80 Tryd.sizeOf5 rfl rfl rfl (by decide)) ?_
  have fp := rd_pre f 32
  rw [hr] at fp
  refine wl_copy Tryd.u8 rfl rfl hr32.symm fp f4 (by rw [B8_length, List.length_replicate]; decide) ?_
  intro w5' hB5 hg5 hz5
  rw [List.take_of_length_le (by omega), spl_all (by rw [B8_length, B8_length, List.length_replicate]; omega)] at hB5
  replace hw := hw.trans (below_of_grownBy hg5 hw.size (by omega))
  replace f2 := f2.grown hg5 (by intro e; injection e with e; omega)
  clear f f7 f4
  refine wl_nild ?_
  refine rk_seq ?_
  refine rk_region ?_
  refine wl_r (o_ldBa Tryd.isAgg76 Tryd.sizeOf76 rfl hB5 hr32) ?_
  refine wl_stBa Tryd.sizeOf76 rfl f2 rfl hr32 (by rfl) ?_
  rintro w_2 f g_1 e_1
  have s_1 := g_1.size
  replace hw := hw.trans (below_of_grownBy g_1.g hw.size (by omega))
  replace hB5 := hB5.k g_1.g (ap_some (by omega))
  clear f2
  refine wl_nil ?_
  refine ret_cell rfl rfl Tryd.isAgg76 Tryd.sizeOf76 f (by rw [B8_length, hr32]) ?_
  exact ⟨rfl, hw⟩
end Go.Proofs.YtklijaahbahcoaaDoor
/-
  Bytes compared as strings.
-/
namespace Go.Proofs.YtklijaahbahcoaaDoor
set_option maxRecDepth 100000
open Go.RowKit
section
variable {N : Nat} {fr : Fr} {w w0 : World} {ty : TypeId} {x : Operand}
--@ rule convert r o_strS
theorem o_strS {A : Option Addr} {n c : Nat} {l : List UInt8} (hx : fr.ev x = some (.slice A n c)) (hr : Rd w0 A l) (hb : Below w0.heap.size w0 w) (hn : n = l.length) :
    OpV Tryd.prog N fr w (.convert 22 9 x) ty (.string ⟨l.toArray⟩) w := o_strU Tryd.underlying22 Tryd.underlying5 Tryd.underlying9 hx hr hb hn
end
end Go.Proofs.YtklijaahbahcoaaDoor
/-
  Lists of numbers compared.
-/
namespace Go.Proofs.YtklijaahbahcoaaDoor
set_option maxRecDepth 100000
open Go.RowKit
theorem C_IntsZ {A B : Option Addr} {a b : List Int} {n m c d : Nat} (w : World) (hA : RZ w A a) (hB : RZ w B b) (hn : n = a.length) (hm : m = b.length) (hl : a.length ≤ 4000000000) (hl2 : b.length ≤ 4000000000) :
    CallsR Tryd.prog 18 [.slice A n c, .slice B m d] w fun v w' => v = .bool (decide (a = b)) ∧ Below w.heap.size w w' := by
  subst hn; subst hm
  refine callsR Tryd.func18 rfl rfl (by kernel_rfl) rfl ?_
  have hw := Below.refl w.heap.size w
  refine rk_seq ?_
  refine rk_region ?_
  refine wl_p (fun _ => o_assign rfl) ?_
  refine wl_nil ?_
  refine rk_seq ?_
  refine rk_seq ?_
  refine rk_region ?_
  refine wl_p (fun _ => o_move rfl) ?_
  refine wl_p (fun _ => o_len (t := 35) Tryd.underlying35 rfl) ?_
  refine wl_p (fun _ => o_move rfl) ?_
  refine wl_p (fun _ => o_len (t := 35) Tryd.underlying35 rfl) ?_
  refine wl_p (fun _ => o_ne rfl rfl) ?_
  refine wl_nil ?_
  refine rk_if rfl (fun h10 => ?_) (fun h10 => ?_)
  · refine rk_seq ?_
    refine rk_region ?_
    refine wl_p (fun _ => o_assign rfl) ?_
    refine wl_nil ?_
    refine ret1 rfl rfl ?_
    exact ⟨by rw [decide_eq_false (fun e => by rw [e] at h10; omega)], hw⟩
  · refine rk_skip ?_
    refine rk_seq ?_
    refine rk_seq ?_
    refine rk_region ?_
    refine wl_p (fun _ => o_assign rfl) ?_
    refine wl_nil ?_
    refine rk_block ?_
    refine rk_joinf (fun fb fr w2 => fr = [] ++ fb.drop 1 ∧ a = b ∧ Below w.heap.size w w2) ?_ (fun ks hj => ?_)
    rotate_left
    · refine rk_loopf (fun fb k fr w2 => ∃ (i : Nat) (v : Int), fr = [(5, .int .i64 v)] ++ fb.drop 1 ∧ v = i ∧ i ≤ a.length ∧ k = a.length - i ∧ a.take i = b.take i ∧ Below w.heap.size w w2) (n := a.length) (Fr.le_of (by kernel_rfl) (by kernel_rfl) (by repeat' constructor)) ⟨0, _, rfl, rfl, by omega, rfl, rfl, hw⟩ ?_
      clear hw
      rintro k fr w2 ⟨i, v, rfl, rfl, hi, rfl, heq, hw⟩
      first | refine rk_frame (by simp only [List.cons_append, List.nil_append, List.drop_succ_cons, List.drop_zero]; rfl) ?_ | refine wl_frame (by simp only [List.cons_append, List.nil_append, List.drop_succ_cons, List.drop_zero]; rfl) ?_
      refine rk_seq ?_
      refine rk_seq ?_
      refine rk_region ?_
      refine wl_p (fun _ => o_move rfl) ?_
      refine wl_p (fun _ => o_move rfl) ?_
      refine wl_p (fun _ => o_len (t := 35) Tryd.underlying35 rfl) ?_
      refine wl_p (fun _ => o_lt rfl rfl) ?_
      refine wl_nil ?_
      refine rk_if rfl (fun h14 => ?_) (fun h14 => ?_)
      · have h1 : i < a.length := by omega
        have h2 : i < b.length := by omega
        refine rk_skip ?_
        refine rk_seq ?_
        refine rk_block ?_
        refine rk_seq ?_
        refine rk_draw (id := 6) (none) [0, 0, 3, 4, 0, 0, 48, 64, 136] [0, 0, 3, 7, 0, 0, 48, 112, 255] 0 0 [(.p, 0), (.p, 1), (.p, 2), (.r, 3), (.p, 4), (.p, 5), (.p, 6), (.r, 7), (.p, 8)] (by kernel_rfl) (by kernel_rfl) (by kernel_rfl) (by kernel_rfl) (by kernel_rfl) ?_
        replace hw := hw.drew
        refine wl_p (fun _ => o_move rfl) ?_
        refine wl_p (fun _ => o_move rfl) ?_
        refine wl_p (fun _ => (o_iaddrA1 (i) Tryd.underlying35 Tryd.sizeOf3 rfl rfl rfl (Reads.some_ hA.to_Reads (by decide) (by omega)) (by omega))) ?_
        refine wl_r (o_loadZ Tryd.isAgg3 rfl (hA.u hw).to_Reads (by omega)) ?_
        refine wl_p (fun _ => o_move rfl) ?_
        refine wl_p (fun _ => o_move rfl) ?_
        refine wl_p (fun _ => (o_iaddrA1 (i) Tryd.underlying35 Tryd.sizeOf3 rfl rfl rfl (Reads.some_ hB.to_Reads (by decide) (by omega)) (by omega))) ?_
        refine wl_r (o_loadZ Tryd.isAgg3 rfl (hB.u hw).to_Reads (by omega)) ?_
        refine wl_p (fun _ => o_ne rfl rfl) ?_
        refine wl_nild ?_
        refine rk_if rfl (fun h25 => ?_) (fun h25 => ?_)
        · refine rk_seq ?_
          refine rk_region ?_
          refine wl_p (fun _ => o_assign rfl) ?_
          refine wl_nil ?_
          refine ret1 rfl rfl ?_
          exact ⟨by rw [decide_eq_false (fun e => by subst e; exact h25 rfl)], hw⟩
        · refine rk_skip ?_
          refine rk_blk ?_
          refine rk_region ?_
          refine wl_p (fun _ => o_move rfl) ?_
          refine wl_p (fun _ => o_add rfl rfl (by omega) (by omega)) ?_
          refine wl_p (fun _ => o_assign rfl) ?_
          refine wl_nil ?_
          exact rk_againf (Fr.le_of (by kernel_rfl) (by kernel_rfl) (by repeat' constructor)) ⟨i + 1, _, rfl, by omega, by omega, rfl, by rw [List.take_succ_eq_append_getElem h1, List.take_succ_eq_append_getElem h2, heq]; simp at h25; rw [h25], hw⟩ (by omega)
      · refine rk_exit rfl ?_
        obtain rfl : i = a.length := by omega
        have e : a = b := by
          rw [List.take_length] at heq
          rw [heq]; exact List.take_of_length_le (by omega)
        exact rk_tof hj (Fr.le_of (by kernel_rfl) (by kernel_rfl) (by repeat' constructor)) ⟨rfl, e, hw⟩
    clear hw
    rintro fr w2 ⟨rfl, e, hw⟩
    first | refine rk_frame (by simp only [List.cons_append, List.nil_append, List.drop_succ_cons, List.drop_zero]; rfl) ?_ | refine wl_frame (by simp only [List.cons_append, List.nil_append, List.drop_succ_cons, List.drop_zero]; rfl) ?_
    refine rk_seq ?_
    refine rk_region ?_
    refine wl_p (fun _ => o_assign rfl) ?_
    refine wl_nil ?_
    refine ret1 rfl rfl ?_
    exact ⟨by rw [decide_eq_true e], hw⟩
end Go.Proofs.YtklijaahbahcoaaDoor
/-
  Acts as they lie in memory; walks: Own, small, keep, the document's Bytes.
-/
namespace Go.Proofs.YtklijaahbahcoaaDoor
set_option maxRecDepth 100000
open Go.RowKit
theorem rsl_zs {w : World} {A : Option Addr} {L : List Int} (h : RSl (gInt .i64) w A L) : RZ w A L ∧ ∀ z ∈ L, (Lit.int .i64 z).wf = true := by
  obtain ⟨xs, h1, h2⟩ := h
  have hl : xs.length = L.length := by rw [h1.1]; exact Nat.mul_one _
  have e : xs = L.map (Value.int .i64) := by
    apply List.ext_getElem (by rw [hl, List.length_map])
    intro i h3 h4
    obtain ⟨h5, _⟩ := h2 i (by omega)
    have h6 := part_get (xs := xs) (m := 1) (i := i) (j := 0) (by omega)
    have h7 : part xs (gInt .i64).sz i = part xs 1 i := rfl
    rw [h7] at h5
    rw [h5, Nat.mul_one, Nat.add_zero, List.getElem?_eq_getElem h3] at h6
    rw [List.getElem_map]
    simpa using h6.symm
  subst e
  refine ⟨h1, fun z hz => ?_⟩
  obtain ⟨i, hi, rfl⟩ := List.getElem_of_mem hz
  exact (h2 i hi).2
/-- Kind, N, L, Body. -/
abbrev PAct := Int × Int × List Int × By
def gPAct : GoT PAct := (gInt .i64).pair ((gInt .i64).pair ((GoT.slice 3 (gInt .i64)).pair gBytes))
theorem gPAct_R {w : World} {cs : List Value} {a : PAct} (h : gPAct.R w cs a) : ∃ A c B d, cs = [.int .i64 a.1, .int .i64 a.2.1, .slice A a.2.2.1.length c, .slice B a.2.2.2.length d] ∧ RZ w A a.2.2.1 ∧ Rd w B a.2.2.2 ∧ a.2.2.1.length ≤ c ∧ c ≤ maxLen ∧ a.2.2.2.length ≤ d ∧ d ≤ maxLen ∧ (Lit.int .i64 a.1).wf = true ∧ (Lit.int .i64 a.2.1).wf = true ∧ ∀ z ∈ a.2.2.1, (Lit.int .i64 z).wf = true := by
  obtain ⟨c1, c2, rfl, ⟨rfl, w1⟩, c3, c4, rfl, ⟨rfl, w2⟩, c5, c6, rfl, h3, B, d, rfl, h4, h5, h6⟩ := h
  obtain ⟨A, c, rfl, h7, h8, h9⟩ := slice_RSl h3
  exact ⟨A, c, B, d, rfl, (rsl_zs h7).1, h4, h8, h9, h5, h6, w1, w2, (rsl_zs h7).2⟩
theorem opens_PAct : Opens Tryd.prog 50 gPAct :=
  opens_struct Tryd.underlying50 (by kernel_rfl) (.more (opens_int Tryd.underlying3 (by kernel_rfl)) rfl (.more (opens_int Tryd.underlying3 (by kernel_rfl)) rfl
    (.more (opens_slice Tryd.underlying35 (by kernel_rfl) (by decide) (opens_int Tryd.underlying3 (by kernel_rfl))) rfl (.one (opens_bytes Tryd.underlying22 Tryd.underlying5 (by kernel_rfl) (by kernel_rfl)) rfl))))
/-- An act as a value. -/
def PaV (w : World) (a : PAct) (v : Value) : Prop := ∃ A c B d, v = .agg #[.int .i64 a.1, .int .i64 a.2.1, .slice A a.2.2.1.length c, .slice B a.2.2.2.length d] ∧ RZ w A a.2.2.1 ∧ Rd w B a.2.2.2 ∧ a.2.2.1.length ≤ c ∧ c ≤ maxLen ∧ a.2.2.2.length ≤ d ∧ d ≤ maxLen ∧ (Lit.int .i64 a.1).wf = true ∧ (Lit.int .i64 a.2.1).wf = true ∧ ∀ z ∈ a.2.2.1, (Lit.int .i64 z).wf = true
--@ arg headwaterlaw10.Act arg_PAct
theorem arg_PAct {H : Type} {enc : TypeId × Value → H} {W : World} {base : Nat} {v : Value} {d : DataW H} {p : List MemPlace} (hok : Value.okWide Tryd.prog W .any base 50 v) (h : DataW.Trod enc Tryd.prog W 0 (fun _ => true) true 50 v d p) :
    ∃ a : PAct, PaV W a v := by
  obtain ⟨cs, a, rfl, h1⟩ := open_agg opens_PAct (.inl ⟨_, Tryd.underlying50⟩) hok h
  obtain ⟨A, c, B, d, rfl, h2⟩ := gPAct_R h1
  exact ⟨a, A, c, B, d, rfl, h2⟩
def RPA (w : World) (A : Option Addr) (L : List PAct) : Prop := RSl gPAct w A L
/-- Acts as a value. -/
def PasV (w : World) (L : List PAct) (v : Value) : Prop := ∃ A c, v = .slice A L.length c ∧ RPA w A L ∧ L.length ≤ c ∧ c ≤ maxLen
--@ arg []headwaterlaw10.Act arg_PActs
theorem arg_PActs {H : Type} {enc : TypeId × Value → H} {W : World} {base : Nat} {v : Value} {d : DataW H} {p : List MemPlace} (hok : Value.okWide Tryd.prog W .any base 45 v) (h : DataW.Trod enc Tryd.prog W 0 (fun _ => true) true 45 v d p) :
    ∃ L : List PAct, PasV W L v := by
  obtain ⟨L, h1⟩ := open_slc (X := GoT.slice 50 gPAct) (opens_slice Tryd.underlying45 (by kernel_rfl) (by decide) opens_PAct) Tryd.underlying45 hok h
  obtain ⟨A, c, e, h2, h3, h4⟩ := slice_RSl h1
  injection e with e
  exact ⟨L, A, c, e, h2, h3, h4⟩
section
variable {w w' : World} {A : Option Addr} {L : List PAct}
theorem RPA.u (h : RPA w A L) (hb : Below w.heap.size w w') : RPA w' A L := RSl.u h hb
theorem RPA.d (h : RPA w A L) : RPA w.drew A L := RSl.u h (below_drew w)
theorem RPA.some_ (h : RPA w A L) (hl : 0 < L.length) : A = some (A.getD ⟨0, 0, none⟩) := RSl.some_ h (show 0 < 4 by decide) hl
theorem RPA.elem (h : RPA w A L) {i : Nat} (hi : i < L.length) : ∃ A1 c1 B1 d1, CellsAt w A (i * 4) [.int .i64 L[i].1, .int .i64 L[i].2.1, .slice A1 L[i].2.2.1.length c1, .slice B1 L[i].2.2.2.length d1] ∧ RZ w A1 L[i].2.2.1 ∧ Rd w B1 L[i].2.2.2 ∧ L[i].2.2.1.length ≤ c1 ∧ c1 ≤ maxLen ∧ L[i].2.2.2.length ≤ d1 ∧ d1 ≤ maxLen ∧
    (Lit.int .i64 L[i].1).wf = true ∧ (Lit.int .i64 L[i].2.1).wf = true ∧ ∀ z ∈ L[i].2.2.1, (Lit.int .i64 z).wf = true := by
  obtain ⟨cs, h1, h2⟩ := RSl.elem h (show 0 < 4 by decide) hi
  obtain ⟨A1, c1, B1, d1, rfl, h3⟩ := gPAct_R h2
  exact ⟨A1, c1, B1, d1, h1, h3⟩
end
section
variable {fn : Func} {F : Ending → World → Prop} {N : Nat} {ks : List K} {ops : Array Oper} {tg : Tags} {l : List Oper} {fr : Fr} {w w0 : World} {ty : TypeId} {pos : String} {aft : Array Edge} {gd : Option (Nat × Bool)} {d j : Nat} {x : Operand} {A : Option Addr} {L : List PAct}
--@ rule load l wl_ldPaB
theorem wl_ldPaB (hx : fr.ev x = some (.pointer (some (adr A (j * 4 + 3))))) (hr : RPA w0 A L) (hb : Below w0.heap.size w0 w) (hj : j < L.length)
    (hk : ∀ A1 c1, Rd w0 A1 L[j].2.2.2 → L[j].2.2.2.length ≤ c1 → c1 ≤ maxLen → WL Tryd.prog fn F N ks ops tg.tail l ((d, .slice A1 L[j].2.2.2.length c1) :: fr) w)
    (ht : tg.reads = true := by rfl) (hg : onG ops fr gd = true := by rfl) (hd : Nat.blt d N = true := by rfl) : WL Tryd.prog fn F N ks ops tg (⟨some d, .load 22 x, ty, pos, aft, gd⟩ :: l) fr w := by
  obtain ⟨A1, c1, B1, d1, h1, h2, h3, h4, h5, h6, h7, _⟩ := hr.elem hj
  exact wl_r (o_load (t := 22) Tryd.isAgg22 hx (h1.u hb 3 _ rfl)) (hk B1 d1 h3 h6 h7) ht hg hd
--@ rule load l wl_ldPaL
theorem wl_ldPaL (hx : fr.ev x = some (.pointer (some (adr A (j * 4 + 2))))) (hr : RPA w0 A L) (hb : Below w0.heap.size w0 w) (hj : j < L.length)
    (hk : ∀ A1 c1, RZ w0 A1 L[j].2.2.1 → L[j].2.2.1.length ≤ c1 → c1 ≤ maxLen → (∀ z ∈ L[j].2.2.1, (Lit.int .i64 z).wf = true) → WL Tryd.prog fn F N ks ops tg.tail l ((d, .slice A1 L[j].2.2.1.length c1) :: fr) w)
    (ht : tg.reads = true := by rfl) (hg : onG ops fr gd = true := by rfl) (hd : Nat.blt d N = true := by rfl) : WL Tryd.prog fn F N ks ops tg (⟨some d, .load 35 x, ty, pos, aft, gd⟩ :: l) fr w := by
  obtain ⟨A1, c1, B1, d1, h1, h2, h3, h4, h5, h6, h7, _, _, h8⟩ := hr.elem hj
  exact wl_r (o_load (t := 35) Tryd.isAgg35 hx (h1.u hb 2 _ rfl)) (hk A1 c1 h2 h4 h5 h8) ht hg hd
--@ rule load l wl_ldPAct
theorem wl_ldPAct (hx : fr.ev x = some (.pointer (some (adr A (j * 4))))) (hr : RPA w0 A L) (hb : Below w0.heap.size w0 w) (hj : j < L.length)
    (hk : ∀ A1 c1 B1 d1, RZ w0 A1 L[j].2.2.1 → Rd w0 B1 L[j].2.2.2 → L[j].2.2.1.length ≤ c1 → c1 ≤ maxLen → L[j].2.2.2.length ≤ d1 → d1 ≤ maxLen → (Lit.int .i64 L[j].1).wf = true → (Lit.int .i64 L[j].2.1).wf = true → (∀ z ∈ L[j].2.2.1, (Lit.int .i64 z).wf = true) →
      WL Tryd.prog fn F N ks ops tg.tail l ((d, .agg #[.int .i64 L[j].1, .int .i64 L[j].2.1, .slice A1 L[j].2.2.1.length c1, .slice B1 L[j].2.2.2.length d1]) :: fr) w)
    (ht : tg.reads = true := by rfl) (hg : onG ops fr gd = true := by rfl) (hd : Nat.blt d N = true := by rfl) : WL Tryd.prog fn F N ks ops tg (⟨some d, .load 50 x, ty, pos, aft, gd⟩ :: l) fr w := by
  obtain ⟨A1, c1, B1, d1, h1, h2, h3, h4, h5, h6, h7, w1, w2, h8⟩ := hr.elem hj
  refine wl_r (o_loadn (cs := [.int .i64 L[j].1, .int .i64 L[j].2.1, .slice A1 L[j].2.2.1.length c1, .slice B1 L[j].2.2.2.length d1]) Tryd.isAgg50 Tryd.sizeOf50 hx (fun i u hu => ?_)) (hk A1 c1 B1 d1 h2 h3 h4 h5 h6 h7 w1 w2 h8) ht hg hd
  rw [adr_add]
  exact h1.u hb i u hu
end
theorem Tryd.rowPAct : RowT Tryd.prog 45 50 (.agg #[.int .i64 0, .int .i64 0, .slice none 0 0, .slice none 0 0]) 4 64 := ⟨Tryd.underlying45, by kernel_rfl, rfl, by omega⟩
section
variable {fn : Func} {F : Ending → World → Prop} {N : Nat} {ks : List K} {ops : Array Oper} {tg : Tags} {l : List Oper} {fr : Fr} {w w0 : World} {ty : TypeId} {pos : String} {aft : Array Edge} {gd : Option (Nat × Bool)} {d : Nat}
--@ rule buildSlice l wl_litPAct1
/-- A literal of one act. -/
theorem wl_litPAct1 {ps : Array (Nat × Operand)} {xs : List Operand} {k t : Int} {K B : Option Addr} {n c m e : Nat} {zs : List Int} {b : By} (hxs : ps.toList.map Prod.snd = xs) (hx : fr.evs xs = some [.agg #[.int .i64 k, .int .i64 t, .slice K n c, .slice B m e]]) (hK : RZ w K zs) (hB : Rd w B b) (hn : n = zs.length) (hm : m = b.length) (hc : zs.length ≤ c) (hcm : c ≤ maxLen) (he : b.length ≤ e) (hem : e ≤ maxLen) (w1 : (Lit.int .i64 k).wf = true) (w2 : (Lit.int .i64 t).wf = true) (wz : ∀ z ∈ zs, (Lit.int .i64 z).wf = true) (hps : ps = ((List.range' 0 1).zip xs).toArray)
    (hk : ∀ A w', RPA w' A [(k, t, zs, b)] → Below w.heap.size w w' → WL Tryd.prog fn F N ks ops tg.tail l ((d, .slice A 1 1) :: fr) w')
    (ht : tg.loud = true := by rfl) (hg : onG ops fr gd = true := by rfl) (hd : Nat.blt d N = true := by rfl) : WL Tryd.prog fn F N ks ops tg (⟨some d, .buildSlice 45 1 ps, ty, pos, aft, gd⟩ :: l) fr w := by
  subst hn; subst hm
  refine wl_litRS (X := gPAct) (L := [(k, t, zs, b)]) Tryd.rowPAct Tryd.sizeOf50 Tryd.zeroValue50 hxs hps hx rfl rfl (fun i h => ?_) rfl hk ht hg hd
  obtain rfl : i = 0 := by simp at h; omega
  refine ⟨_, rfl, rfl, [_], _, rfl, ⟨rfl, w1⟩, [_], _, rfl, ⟨rfl, w2⟩, [_], _, rfl, ⟨K, c, zs.map (Value.int .i64), rfl, hc, hcm, hK, fun i hi => ⟨?_, wz _ (List.getElem_mem hi)⟩⟩, B, e, rfl, hB, he, hem⟩
  show part (zs.map (Value.int .i64)) 1 i = [Value.int .i64 zs[i]]
  have hi2 : i < (zs.map (Value.int .i64)).length := by rw [List.length_map]; exact hi
  unfold part
  rw [Nat.mul_one, List.drop_eq_getElem_cons hi2, List.getElem_map]; rfl
end
theorem run_append_z0 {P : Program} (w : World) (t ti ty e : TypeId) (i : TypeInfo) (ht : P.underlying t = some (.slice e)) (hti : P.underlying ti = some (.int .i64)) (hi : P.info? e = some i) (hz : i.zero = some (.int .u8 0)) (hsize : i.size = 1) (hby : i.bytes = 1)
    (A : Option Addr) (n c : Nat) (hc : n ≤ c) : (Builtin.append_ #[t, ti] ty #[.slice A n c, .int .i64 0]).run P w = .ok (.slice A n c) w := by
  have hw : IntKind.i64.wrap 0 = 0 := i64_in (by omega) (by omega)
  cases A <;> simp [Builtin.append_, run_underlying ht, run_underlying hti, sizeOf, typeInfo, zeroValue, hi, hz, hsize, hby, asInt, asIntOf, hw, Builtin.lenOf, hc, Builtin.firstCells, Builtin.zeroCells, storeCells]
section
variable {fn : Func} {F : Ending → World → Prop} {N : Nat} {ks : List K} {ops : Array Oper} {tg : Tags} {l : List Oper} {fr : Fr} {w : World} {ty : TypeId} {pos : String} {aft : Array Edge} {gd : Option (Nat × Bool)} {d n c lo hi : Nat} {x y : Operand} {A : Option Addr} {s : List UInt8}
--@ rule append l wl_appZ00
theorem wl_appZ00 {M : Int} (hx : fr.ev x = some (.slice A n c)) (hown : OwnH w lo hi A c s) (hn : n = s.length) (hy : fr.ev y = some (.int .i64 M)) (hM : M = 0)
    (h : WL Tryd.prog fn F N ks ops tg.tail l ((d, .slice A n c) :: fr) w)
    (ht : tg.loud = true := by rfl) (hg : onG ops fr gd = true := by rfl) (hd : Nat.blt d N = true := by rfl) :
    WL Tryd.prog fn F N ks ops tg (⟨some d, .call { callee := .builtin .append, args := #[x, y], argTypes := #[22, 3] }, ty, pos, aft, gd⟩ :: l) fr w := by
  subst hn; subst hM
  obtain ⟨i, hi', hz, hs, hb⟩ := info_parts Tryd.u8.hi
  have hrun := run_append_z0 (P := Tryd.prog) w 22 3 ty 5 i Tryd.u8.ht Tryd.underlying3 hi' hz hs hb A s.length c hown.cap
  exact wl_v (o_builtin (xs := [x, y]) (vs := [.slice A s.length c, .int .i64 0]) (by simp [Fr.evs, hx, hy]) (by simp [builtin, hrun]) (by simp)) h ht hg hd (.inr (grown_of_below (Below.refl _ _) _))
end
def smallP (L : List PAct) : Prop := L.length ≤ 80 ∧ ∀ a ∈ L, a.2.2.2.length ≤ 600 ∧ a.2.2.1.length ≤ 80
theorem C_OwnP {A : Option Addr} {p : By} {n c : Nat} (w : World) (hp : Rd w A p) (hn : n = p.length) (hl : p.length ≤ 4000000000) :
    CallsR Tryd.prog 10 [.slice A n c] w fun v w' => ∃ A' c', v = .slice A' p.length c' ∧ OwnH w' w.heap.size w'.heap.size A' c' p ∧ Below w.heap.size w w' := by
  subst hn
  refine callsR Tryd.func10 rfl rfl (by kernel_rfl) rfl ?_
  have hw := Below.refl w.heap.size w
  refine rk_seq ?_
  refine rk_region ?_
  refine wl_p (fun _ => o_assign rfl) ?_
  refine wl_nil ?_
  refine rk_seq ?_
  refine rk_region ?_
  refine wl_litB [] Tryd.u8 Tryd.sizeOf5 Tryd.zeroValue5 (by rfl) rfl rfl (by rfl) (by rfl) (by rfl) ?_
  rintro A3 w3 f3 b3
  have qf3 := f3.cap
  have s3 := b3.size
  replace hw := hw.trans (b3.mono hw.size)
  refine wl_p (fun _ => o_move rfl) ?_
  refine wl_appB Tryd.u8 rfl f3 (by rfl) rfl (hp.u hw) rfl (by omega) hw.size ?_
  rintro A5 c5 w5 f5 g5 b5 i5
  have qf5 := f5.cap
  have s5 := g5.size
  replace hw := hw.trans (b5.mono (by omega))
  clear f3
  refine wl_p (fun _ => o_assign rfl) ?_
  refine wl_nil ?_
  refine ret1 rfl rfl ?_
  exact ⟨_, _, rfl, f5, hw⟩
set_option maxRecDepth 100000 in
theorem C_small10 {A : Option Addr} {L : List PAct} {n c : Nat} (w : World) (hL : RPA w A L) (hn : n = L.length) (hm : n ≤ maxLen) :
    CallsR Tryd.prog 20 [.slice A n c] w fun v w' => ∃ b, v = .bool b ∧ (b = true ↔ smallP L) ∧ Below w.heap.size w w' := by
  subst hn
  refine callsR Tryd.func20 rfl rfl (by kernel_rfl) rfl ?_
  have hw := Below.refl w.heap.size w
  refine rk_seq ?_
  refine rk_region ?_
  refine wl_p (fun _ => o_assign rfl) ?_
  refine wl_nil ?_
  refine rk_seq ?_
  refine rk_seq ?_
  refine rk_region ?_
  refine wl_p (fun _ => o_move rfl) ?_
  refine wl_p (fun _ => o_len (t := 45) Tryd.underlying45 rfl) ?_
  refine wl_p (fun _ => o_gt rfl rfl) ?_
  refine wl_nil ?_
  refine rk_if rfl (fun h6 => ?_) (fun h6 => ?_)
  · refine rk_seq ?_
    refine rk_region ?_
    refine wl_p (fun _ => o_assign rfl) ?_
    refine wl_nil ?_
    refine ret1 rfl rfl ?_
    exact ⟨false, rfl, ⟨fun h => (by cases h), fun h => by have := h.1; omega⟩, hw⟩
  · refine rk_skip ?_
    refine rk_seq ?_
    refine rk_seq ?_
    refine rk_region ?_
    refine wl_p (fun _ => o_assign rfl) ?_
    refine wl_nil ?_
    refine rk_block ?_
    refine rk_joinf (fun fb fr W => fr = [] ++ fb.drop 1 ∧ (∀ a ∈ L, a.2.2.2.length ≤ 600 ∧ a.2.2.1.length ≤ 80) ∧ W = w) ?_ (fun ks hj => ?_)
    rotate_left
    · refine rk_loopf (fun fb m fr W => ∃ (i : Nat) (v : Int), fr = [(3, .int .i64 v)] ++ fb.drop 1 ∧ v = i ∧ i ≤ L.length ∧ m = 81 - i ∧ (∀ a ∈ L.take i, a.2.2.2.length ≤ 600 ∧ a.2.2.1.length ≤ 80) ∧ W = w) (n := 81) (Fr.le_of (by kernel_rfl) (by kernel_rfl) (by repeat' constructor)) ⟨0, _, rfl, rfl, by omega, rfl, by simp, rfl⟩ ?_
      rintro m fr W ⟨i, v, rfl, rfl, hi, rfl, hall, rfl⟩
      first | refine rk_frame (by simp only [List.cons_append, List.nil_append, List.drop_succ_cons, List.drop_zero]; rfl) ?_ | refine wl_frame (by simp only [List.cons_append, List.nil_append, List.drop_succ_cons, List.drop_zero]; rfl) ?_
      refine rk_seq ?_
      refine rk_seq ?_
      refine rk_region ?_
      refine wl_p (fun _ => o_move rfl) ?_
      refine wl_p (fun _ => o_move rfl) ?_
      refine wl_p (fun _ => o_len (t := 45) Tryd.underlying45 rfl) ?_
      refine wl_p (fun _ => o_lt rfl rfl) ?_
      refine wl_nil ?_
      refine rk_if rfl (fun h10 => ?_) (fun h10 => ?_)
      · have hil : i < L.length := by omega
        by_cases hb : 600 < L[i].2.2.2.length
        · refine rk_skip ?_
          refine rk_seq ?_
          refine rk_block ?_
          refine rk_seq ?_
          refine rk_region ?_
          refine wl_p (fun _ => o_move rfl) ?_
          refine wl_p (fun _ => o_move rfl) ?_
          refine wl_p (fun _ => (o_iaddrA (i) Tryd.underlying45 Tryd.sizeOf50 rfl rfl rfl (hL.some_ (by omega)) (by omega))) ?_
          refine wl_p (fun _ => (o_faddrR rfl Tryd.underlying50 (by rfl) Tryd.sizeOf22 (by rfl) (by rfl))) ?_
          refine wl_ldPaB rfl hL hw (by omega) ?_
          rintro A117 c117 f17 i17 i17_1
          refine wl_p (fun _ => o_len (t := 22) Tryd.underlying22 rfl) ?_
          refine wl_p (fun _ => o_gt rfl rfl) ?_
          refine wl_p (fun _ => o_move rfl) ?_
          refine wl_know 20 true rfl (decide_eq_true (by omega)) ?_
          refine wl_off ?_
          refine wl_off ?_
          refine wl_off ?_
          refine wl_off ?_
          refine wl_off ?_
          refine wl_off ?_
          refine wl_off ?_
          refine wl_p (fun _ => o_pick_t rfl rfl) ?_
          refine wl_nil ?_
          refine rk_true rfl ?_
          refine rk_seq ?_
          refine rk_region ?_
          refine wl_p (fun _ => o_assign rfl) ?_
          refine wl_nil ?_
          refine ret1 rfl rfl ?_
          exact ⟨false, rfl, ⟨fun h => (by cases h), fun h => by have := h.2 _ (List.getElem_mem hil); omega⟩, hw⟩
        · by_cases hz : 80 < L[i].2.2.1.length
          · refine rk_skip ?_
            refine rk_seq ?_
            refine rk_block ?_
            refine rk_seq ?_
            refine rk_region ?_
            refine wl_p (fun _ => o_move rfl) ?_
            refine wl_p (fun _ => o_move rfl) ?_
            refine wl_p (fun _ => (o_iaddrA (i) Tryd.underlying45 Tryd.sizeOf50 rfl rfl rfl (hL.some_ (by omega)) (by omega))) ?_
            refine wl_p (fun _ => (o_faddrR rfl Tryd.underlying50 (by rfl) Tryd.sizeOf22 (by rfl) (by rfl))) ?_
            refine wl_ldPaB rfl hL hw (by omega) ?_
            rintro A117 c117 f17 i17 i17_1
            refine wl_p (fun _ => o_len (t := 22) Tryd.underlying22 rfl) ?_
            refine wl_p (fun _ => o_gt rfl rfl) ?_
            refine wl_p (fun _ => o_move rfl) ?_
            refine wl_know 20 false rfl (decide_eq_false (by omega)) ?_
            refine wl_p (fun _ => o_move rfl) ?_
            refine wl_p (fun _ => o_move rfl) ?_
            refine wl_p (fun _ => (o_iaddrA (i) Tryd.underlying45 Tryd.sizeOf50 rfl rfl rfl (hL.some_ (by omega)) (by omega))) ?_
            refine wl_p (fun _ => (o_faddrR rfl Tryd.underlying50 (by rfl) Tryd.sizeOf35 (by rfl) (by rfl))) ?_
            refine wl_ldPaL rfl hL hw (by omega) ?_
            rintro A125 c125 f25 i25 i25_1 i25_2
            refine wl_p (fun _ => o_len (t := 35) Tryd.underlying35 rfl) ?_
            refine wl_p (fun _ => o_gt rfl rfl) ?_
            refine wl_p (fun _ => o_pick_f rfl rfl) ?_
            refine wl_nil ?_
            refine rk_if rfl (fun h28 => ?_) (fun h28 => h28.elim (by omega))
            refine rk_seq ?_
            refine rk_region ?_
            refine wl_p (fun _ => o_assign rfl) ?_
            refine wl_nil ?_
            refine ret1 rfl rfl ?_
            exact ⟨false, rfl, ⟨fun h => (by cases h), fun h => by have := h.2 _ (List.getElem_mem hil); omega⟩, hw⟩
          · refine rk_skip ?_
            refine rk_seq ?_
            refine rk_block ?_
            refine rk_seq ?_
            refine rk_region ?_
            refine wl_p (fun _ => o_move rfl) ?_
            refine wl_p (fun _ => o_move rfl) ?_
            refine wl_p (fun _ => (o_iaddrA (i) Tryd.underlying45 Tryd.sizeOf50 rfl rfl rfl (hL.some_ (by omega)) (by omega))) ?_
            refine wl_p (fun _ => (o_faddrR rfl Tryd.underlying50 (by rfl) Tryd.sizeOf22 (by rfl) (by rfl))) ?_
            refine wl_ldPaB rfl hL hw (by omega) ?_
            rintro A117 c117 f17 i17 i17_1
            refine wl_p (fun _ => o_len (t := 22) Tryd.underlying22 rfl) ?_
            refine wl_p (fun _ => o_gt rfl rfl) ?_
            refine wl_p (fun _ => o_move rfl) ?_
            refine wl_know 20 false rfl (decide_eq_false (by omega)) ?_
            refine wl_p (fun _ => o_move rfl) ?_
            refine wl_p (fun _ => o_move rfl) ?_
            refine wl_p (fun _ => (o_iaddrA (i) Tryd.underlying45 Tryd.sizeOf50 rfl rfl rfl (hL.some_ (by omega)) (by omega))) ?_
            refine wl_p (fun _ => (o_faddrR rfl Tryd.underlying50 (by rfl) Tryd.sizeOf35 (by rfl) (by rfl))) ?_
            refine wl_ldPaL rfl hL hw (by omega) ?_
            rintro A125 c125 f25 i25 i25_1 i25_2
            refine wl_p (fun _ => o_len (t := 35) Tryd.underlying35 rfl) ?_
            refine wl_p (fun _ => o_gt rfl rfl) ?_
            refine wl_p (fun _ => o_pick_f rfl rfl) ?_
            refine wl_nil ?_
            refine rk_if rfl (fun h28 => absurd h28 (by omega)) (fun h28 => ?_)
            refine rk_skip ?_
            refine rk_blk ?_
            refine rk_region ?_
            refine wl_p (fun _ => o_move rfl) ?_
            refine wl_p (fun _ => o_add rfl rfl (by omega) (by omega)) ?_
            refine wl_p (fun _ => o_assign rfl) ?_
            refine wl_nil ?_
            refine rk_againf (Fr.le_of (by kernel_rfl) (by kernel_rfl) (by repeat' constructor)) ⟨i + 1, _, rfl, by omega, by omega, rfl, ?_, rfl⟩ (by omega)
            rw [List.take_succ_eq_append_getElem hil]
            intro a ha
            rcases List.mem_append.1 ha with ha | ha
            · exact hall a ha
            · rw [List.mem_singleton] at ha; subst ha; omega
      · refine rk_exit rfl ?_
        rw [List.take_of_length_le (by omega)] at hall
        exact rk_tof hj (Fr.le_of (by kernel_rfl) (by kernel_rfl) (by repeat' constructor)) ⟨rfl, hall, rfl⟩
    rintro fr W ⟨rfl, hall, rfl⟩
    first | refine rk_frame (by simp only [List.cons_append, List.nil_append, List.drop_succ_cons, List.drop_zero]; rfl) ?_ | refine wl_frame (by simp only [List.cons_append, List.nil_append, List.drop_succ_cons, List.drop_zero]; rfl) ?_
    refine rk_seq ?_
    refine rk_region ?_
    refine wl_p (fun _ => o_assign rfl) ?_
    refine wl_nil ?_
    refine ret1 rfl rfl ?_
    exact ⟨true, rfl, ⟨fun _ => ⟨by omega, hall⟩, fun _ => rfl⟩, hw⟩
set_option maxRecDepth 100000 in
theorem C_keep10 {A : Option Addr} {zs : List Int} {r : List Bool} {n c : Nat} (w : World) (hz : RZ w A zs) (hr : zs.map (fun z => decide (z.tmod 2 ≠ 0)) = r) (hn : n = zs.length) (hm : zs.length ≤ 80) :
    CallsR Tryd.prog 24 [.slice A n c] w fun v w' => ∃ A' c', v = .slice A' r.length c' ∧ OwnBo w' w.heap.size w'.heap.size A' c' r ∧ Below w.heap.size w w' := by
  subst hn
  refine callsR Tryd.func24 rfl rfl (by kernel_rfl) rfl ?_
  have hw := Below.refl w.heap.size w
  refine rk_seq ?_
  refine rk_region ?_
  refine wl_p (fun _ => o_assign rfl) ?_
  refine wl_nil ?_
  refine rk_seq ?_
  refine rk_region ?_
  refine wl_p (fun _ => o_assign rfl) ?_
  refine wl_nil ?_
  refine rk_seq ?_
  refine rk_seq ?_
  refine rk_region ?_
  refine wl_p (fun _ => o_assign rfl) ?_
  refine wl_nil ?_
  refine rk_block ?_
  have hrl : r.length = zs.length := by rw [← hr, List.length_map]
  refine rk_joinf (fun fb fr V => ∃ A' c', fr = [(3, .slice A' r.length c')] ++ fb.drop 2 ∧ OwnBo V w.heap.size V.heap.size A' c' r ∧ Below w.heap.size w V) ?_ (fun ks hj => ?_)
  rotate_left
  · refine rk_loopf (fun fb k fr V => ∃ (i : Nat) (v : Int) (A' : Option Addr) (c' : Nat) (q : List Bool), fr = [(4, .int .i64 v), (3, .slice A' q.length c')] ++ fb.drop 2 ∧ v = i ∧ i ≤ zs.length ∧ k = zs.length - i ∧ q = r.take i ∧ OwnBo V w.heap.size V.heap.size A' c' q ∧ Below w.heap.size w V) (n := zs.length) (Fr.le_of (by kernel_rfl) (by kernel_rfl) (by repeat' constructor)) ⟨0, _, none, 0, [], rfl, rfl, by omega, rfl, rfl, OwnBo.nil_, hw⟩ ?_
    clear hw
    rintro k fr V ⟨i, v, A', c', q, rfl, rfl, hi, rfl, hq, f3, hw⟩
    have q3 := f3.cap
    have hsV := hw.size
    have hql : q.length = i := by rw [hq, List.length_take]; omega
    first | refine rk_frame (by simp only [List.cons_append, List.nil_append, List.drop_succ_cons, List.drop_zero]; rfl) ?_ | refine wl_frame (by simp only [List.cons_append, List.nil_append, List.drop_succ_cons, List.drop_zero]; rfl) ?_
    refine rk_seq ?_
    refine rk_seq ?_
    refine rk_region ?_
    refine wl_p (fun _ => o_move rfl) ?_
    refine wl_p (fun _ => o_move rfl) ?_
    refine wl_p (fun _ => o_len (t := 35) Tryd.underlying35 rfl) ?_
    refine wl_p (fun _ => o_lt rfl rfl) ?_
    refine wl_nil ?_
    refine rk_if rfl (fun h8 => ?_) (fun h8 => ?_)
    · have hil : i < zs.length := by omega
      have e : q ++ [decide (zs[i].tmod 2 ≠ 0)] = r.take (i + 1) := by
        subst hr
        rw [hq, List.take_succ_eq_append_getElem (by rw [List.length_map]; exact hil), List.getElem_map]
      refine rk_skip ?_
      refine rk_seq ?_
      refine rk_block ?_
      refine rk_region ?_
      refine wl_p (fun _ => o_move rfl) ?_
      refine wl_p (fun _ => o_move rfl) ?_
      refine wl_p (fun _ => o_move rfl) ?_
      refine wl_p (fun _ => (o_iaddrA1 (i) Tryd.underlying35 Tryd.sizeOf3 rfl rfl rfl (Reads.some_ hz.to_Reads (by decide) (by omega)) (by omega))) ?_
      refine wl_r (o_loadZ Tryd.isAgg3 rfl (hz.u hw).to_Reads (by omega)) ?_
      refine wl_p (fun _ => o_remz rfl rfl (by omega)) ?_
      refine wl_p (fun _ => o_ne rfl rfl) ?_
      refine wl_litBo (zs := [decide (zs[i].tmod 2 ≠ 0)]) rfl rfl rfl rfl rfl rfl ?_
      rintro A18 w18 f18 b18
      have sb18 := b18.size
      replace hw := hw.trans (b18.mono hw.size)
      replace f3 := f3.u b18
      refine wl_appBo rfl f3 rfl rfl f18.to_RdBo (by rfl) (by simp; omega) hw.size ?_
      rintro A19 c19 w19 f19 g19 b19 i19
      have qf19 := f19.cap
      have s19 := g19.size
      replace hw := hw.trans (b19.mono (by omega))
      replace f18 := f18.k g19.g (f3.ap (by omega))
      clear f3
      refine wl_p (fun _ => o_assign rfl) ?_
      refine wl_nil ?_
      refine rk_blk ?_
      refine rk_region ?_
      refine wl_p (fun _ => o_move rfl) ?_
      refine wl_p (fun _ => o_add rfl rfl (by omega) (by omega)) ?_
      refine wl_p (fun _ => o_assign rfl) ?_
      refine wl_nil ?_
      exact rk_againf (Fr.le_of (by kernel_rfl) (by kernel_rfl) (by repeat' constructor)) ⟨i + 1, (i : Int) + 1, _, _, _, rfl, by omega, by omega, rfl, e, f19, hw⟩ (by omega)
    · refine rk_exit rfl ?_
      obtain rfl : i = zs.length := by omega
      rw [← hrl, List.take_length] at hq
      subst hq
      exact rk_tof hj (Fr.le_of (by kernel_rfl) (by kernel_rfl) (by repeat' constructor)) ⟨A', c', rfl, f3, hw⟩
  clear hw
  rintro fr V ⟨A', c', rfl, f3, hw⟩
  first | refine rk_frame (by simp only [List.cons_append, List.nil_append, List.drop_succ_cons, List.drop_zero]; rfl) ?_ | refine wl_frame (by simp only [List.cons_append, List.nil_append, List.drop_succ_cons, List.drop_zero]; rfl) ?_
  refine rk_seq ?_
  refine rk_region ?_
  refine wl_p (fun _ => o_move rfl) ?_
  refine wl_p (fun _ => o_assign rfl) ?_
  refine wl_nil ?_
  refine ret1 rfl rfl ?_
  exact ⟨A', c', rfl, f3, hw⟩
theorem C_rBytesBad {z : Int} {A : Option Addr} {m c : Nat} (w : World) (h : z < 0 ∨ 2147483648 ≤ z ∨ 500 < m) :
    CallsR Tryd.prog 25 [.int .i64 z, .slice A m c] w fun v w' => v = .tuple #[.slice none 0 0, .int .i64 2] ∧ Below w.heap.size w w' := by
  by_cases h0 : z < 0
  · refine callsR Tryd.func25 rfl rfl (by kernel_rfl) rfl ?_
    have hw := Below.refl w.heap.size w
    refine rk_seq ?_
    refine rk_region ?_
    refine wl_p (fun _ => o_assign rfl) ?_
    refine wl_p (fun _ => o_assign rfl) ?_
    refine wl_nil ?_
    refine rk_seq ?_
    refine rk_seq ?_
    refine rk_region ?_
    refine wl_p (fun _ => o_move rfl) ?_
    refine wl_p (fun _ => o_lt rfl rfl) ?_
    refine wl_p (fun _ => o_move rfl) ?_
    refine wl_know 10 true rfl (decide_eq_true (by omega)) ?_
    refine wl_off ?_
    refine wl_off ?_
    refine wl_p (fun _ => o_pick_t rfl rfl) ?_
    refine wl_p (fun _ => o_move rfl) ?_
    refine wl_off ?_
    refine wl_off ?_
    refine wl_off ?_
    refine wl_p (fun _ => o_pick_t rfl rfl) ?_
    refine wl_nil ?_
    refine rk_true rfl ?_
    refine rk_seq ?_
    refine rk_region ?_
    refine wl_p (fun _ => o_assign rfl) ?_
    refine wl_p (fun _ => o_assign rfl) ?_
    refine wl_nil ?_
    refine ret2 rfl rfl rfl ?_
    exact ⟨rfl, hw⟩
  by_cases h1 : 2147483648 ≤ z
  · refine callsR Tryd.func25 rfl rfl (by kernel_rfl) rfl ?_
    have hw := Below.refl w.heap.size w
    refine rk_seq ?_
    refine rk_region ?_
    refine wl_p (fun _ => o_assign rfl) ?_
    refine wl_p (fun _ => o_assign rfl) ?_
    refine wl_nil ?_
    refine rk_seq ?_
    refine rk_seq ?_
    refine rk_region ?_
    refine wl_p (fun _ => o_move rfl) ?_
    refine wl_p (fun _ => o_lt rfl rfl) ?_
    refine wl_p (fun _ => o_move rfl) ?_
    refine wl_know 10 false rfl (decide_eq_false (by omega)) ?_
    refine wl_p (fun _ => o_move rfl) ?_
    refine wl_p (fun _ => o_ge rfl rfl) ?_
    refine wl_p (fun _ => o_pick_f rfl rfl) ?_
    refine wl_p (fun _ => o_move rfl) ?_
    refine wl_know 14 true rfl (decide_eq_true (by omega)) ?_
    refine wl_off ?_
    refine wl_off ?_
    refine wl_off ?_
    refine wl_p (fun _ => o_pick_t rfl rfl) ?_
    refine wl_nil ?_
    refine rk_true rfl ?_
    refine rk_seq ?_
    refine rk_region ?_
    refine wl_p (fun _ => o_assign rfl) ?_
    refine wl_p (fun _ => o_assign rfl) ?_
    refine wl_nil ?_
    refine ret2 rfl rfl rfl ?_
    exact ⟨rfl, hw⟩
  · refine callsR Tryd.func25 rfl rfl (by kernel_rfl) rfl ?_
    have hw := Below.refl w.heap.size w
    refine rk_seq ?_
    refine rk_region ?_
    refine wl_p (fun _ => o_assign rfl) ?_
    refine wl_p (fun _ => o_assign rfl) ?_
    refine wl_nil ?_
    refine rk_seq ?_
    refine rk_seq ?_
    refine rk_region ?_
    refine wl_p (fun _ => o_move rfl) ?_
    refine wl_p (fun _ => o_lt rfl rfl) ?_
    refine wl_p (fun _ => o_move rfl) ?_
    refine wl_know 10 false rfl (decide_eq_false (by omega)) ?_
    refine wl_p (fun _ => o_move rfl) ?_
    refine wl_p (fun _ => o_ge rfl rfl) ?_
    refine wl_p (fun _ => o_pick_f rfl rfl) ?_
    refine wl_p (fun _ => o_move rfl) ?_
    refine wl_know 14 false rfl (decide_eq_false (by omega)) ?_
    refine wl_p (fun _ => o_move rfl) ?_
    refine wl_p (fun _ => o_len (t := 22) Tryd.underlying22 rfl) ?_
    refine wl_p (fun _ => o_gt rfl rfl) ?_
    refine wl_p (fun _ => o_pick_f rfl rfl) ?_
    refine wl_nil ?_
    refine rk_if rfl (fun h18 => ?_) (fun h18 => h18.elim (by omega))
    refine rk_seq ?_
    refine rk_region ?_
    refine wl_p (fun _ => o_assign rfl) ?_
    refine wl_p (fun _ => o_assign rfl) ?_
    refine wl_nil ?_
    refine ret2 rfl rfl rfl ?_
    exact ⟨rfl, hw⟩
theorem C_refWord4 {z k : Int} {n : Nat} {r : By} (w : World) (hz : z = n) (hk : k = 4) (hr : leB 4 n = r) (hn : n < 18446744073709551616) :
    CallsR Tryd.prog 43 [.slice none 0 0, .int .u64 z, .int .i64 k] w fun v w' => ∃ A' c', v = .slice A' r.length c' ∧ OwnH w' w.heap.size w'.heap.size A' c' r ∧ Below w.heap.size w w' := by
  subst hz; subst hk; subst hr
  refine (C_refWord (A := none) (l := []) 0 n 4 w (Rd.nil _ _) (by unfold u64; omega) (by simp)).mono ?_
  rintro v w' ⟨A', c', rfl, h, hb⟩
  exact ⟨A', c', rfl, h.h_, hb⟩
theorem C_rBytesOk {z : Int} {n : Nat} {A : Option Addr} {b r : By} {m c : Nat} (w : World) (hb : Rd w A b) (hz : z = n) (hr : pageL n b = r) (hn : n < 2147483648) (hm : m = b.length) (hl : b.length ≤ 500) :
    CallsR Tryd.prog 25 [.int .i64 z, .slice A m c] w fun v w' => ∃ A' c', v = .tuple #[.slice A' r.length c', .int .i64 0] ∧ OwnH w' w.heap.size w'.heap.size A' c' r ∧ r.length = 512 ∧ Below w.heap.size w w' := by
  subst hz; subst hm
  have hrl : r.length = 512 := by rw [← hr]; exact pageL_len n hl
  obtain ⟨bd, hbd⟩ : ∃ bd, bodyL b = bd := ⟨_, rfl⟩
  have hbdl : bd.length = 500 := by rw [← hbd]; exact bodyL_len hl
  obtain ⟨W4, hW4⟩ : ∃ W, leB 4 n = W := ⟨_, rfl⟩
  have hW4l : W4.length = 4 := by rw [← hW4, leB_length]
  obtain ⟨q, hq⟩ : ∃ q, sumP [W4, bd] = q := ⟨_, rfl⟩
  have hql : q.length = 32 := by rw [← hq, sumP_len]
  unfold sumP at hq
  have hl2 : ∀ x ∈ [W4, bd], x.length ≤ 4000 := by
    intro x hx
    simp only [List.mem_cons, List.not_mem_nil, or_false] at hx
    rcases hx with rfl | rfl <;> omega
  by_cases h5 : b.length = 500
  · have e : bd = b := by rw [← hbd]; exact bodyL_full h5
    subst e
    refine callsR Tryd.func25 rfl rfl (by kernel_rfl) rfl ?_
    have hw := Below.refl w.heap.size w
    refine rk_seq ?_
    refine rk_region ?_
    refine wl_p (fun _ => o_assign rfl) ?_
    refine wl_p (fun _ => o_assign rfl) ?_
    refine wl_nil ?_
    refine rk_seq ?_
    refine rk_seq ?_
    refine rk_region ?_
    refine wl_p (fun _ => o_move rfl) ?_
    refine wl_p (fun _ => o_lt rfl rfl) ?_
    refine wl_p (fun _ => o_move rfl) ?_
    refine wl_p (fun _ => o_move rfl) ?_
    refine wl_p (fun _ => o_ge rfl rfl) ?_
    refine wl_p (fun _ => o_pick_f rfl rfl) ?_
    refine wl_p (fun _ => o_move rfl) ?_
    refine wl_know 14 false rfl (decide_eq_false (by omega)) ?_
    refine wl_p (fun _ => o_move rfl) ?_
    refine wl_p (fun _ => o_len (t := 22) Tryd.underlying22 rfl) ?_
    refine wl_p (fun _ => o_gt rfl rfl) ?_
    refine wl_p (fun _ => o_pick_f rfl rfl) ?_
    refine wl_nil ?_
    refine rk_if rfl (fun h18 => absurd h18 (by omega)) (fun h18 => ?_)
    refine rk_skip ?_
    refine rk_seq ?_
    refine rk_region ?_
    refine wl_litB [] Tryd.u8 Tryd.sizeOf5 Tryd.zeroValue5 (by rfl) rfl rfl (by rfl) (by rfl) (by rfl) ?_
    rintro A19 w19 f19 b19
    have qf19 := f19.cap
    have s19 := b19.size
    replace hw := hw.trans (b19.mono hw.size)
    refine wl_p (fun _ => o_move rfl) ?_
    refine wl_appB Tryd.u8 rfl f19 (by rfl) rfl (hb.u hw) rfl (by omega) hw.size ?_
    rintro A21 c21 w21 f21 g21 b21 i21
    have qf21 := f21.cap
    have s21 := g21.size
    replace hw := hw.trans (b21.mono (by omega))
    clear f19
    refine wl_p (fun _ => o_move rfl) ?_
    refine wl_p (fun _ => o_len (t := 22) Tryd.underlying22 rfl) ?_
    refine wl_p (fun _ => o_sub rfl rfl (by omega) (by omega)) ?_
    refine wl_appZ00 rfl f21 rfl rfl (by omega) ?_
    refine wl_p (fun _ => o_assign rfl) ?_
    refine wl_nil ?_
    refine rk_seq ?_
    refine rk_region ?_
    refine wl_p (fun _ => o_move rfl) ?_
    refine wl_p (fun _ => o_convu64 (src := 3) (dst := 73) Tryd.underlying3 Tryd.underlying73 rfl (by omega) (by omega)) ?_
    refine wl_call rfl (C_refWord4 _ rfl rfl hW4 (by omega)) ?_
    rintro v28 w28 ⟨A28, ⟨c28, ⟨rfl, ⟨f28, b28⟩⟩⟩⟩
    have qf28 := f28.cap
    have s28 := b28.size
    replace hw := hw.trans (b28.mono hw.size)
    replace f21 := f21.u b28
    refine wl_p (fun _ => o_move rfl) ?_
    refine wl_litKr2 (by rfl) rfl f28.to_Rd f21.to_Rd rfl rfl (by omega) (by omega) (own_max' (by assumption)) (own_max' (by assumption)) (by rfl) ?_
    rintro A30 w30 f30 b30
    have s30 := b30.size
    replace hw := hw.trans (b30.mono hw.size)
    replace f21 := f21.u b30
    replace f28 := f28.u b30
    simp only [List.nil_append] at f30 f21
    simp only [List.nil_append]
    refine wl_call rfl (C_refSum _ f30 hq (by rfl) (by simp) (by omega)) ?_
    rintro v31 w31 ⟨rfl, b31⟩
    have s31 := b31.size
    replace hw := hw.trans (b31.mono hw.size)
    replace f28 := f28.u b31
    replace f21 := f21.u b31
    replace f30 := f30.u b31
    refine wl_allocB Tryd.underlying76 Tryd.zeroValue76 (by rfl) ?_
    rintro g7 w7 f7 b7 i7 i7_1
    have s7 := b7.size
    replace hw := hw.trans (b7.mono hw.size)
    replace f30 := f30.u b7
    replace f21 := f21.u b7
    replace f28 := f28.u b7
    refine wl_stBa Tryd.sizeOf76 rfl f7 rfl hql (by rfl) ?_
    rintro w_1 f g e
    have s := g.size
    replace hw := hw.trans (below_of_grownBy g.g hw.size (by omega))
    replace f28 := f28.k g.g (ap_some (by omega))
    replace f21 := f21.k g.g (ap_some (by omega))
    clear f30
    clear f7
    refine wl_nil ?_
    refine rk_seq ?_
    refine rk_region ?_
    refine wl_litB [] Tryd.u8 Tryd.sizeOf5 Tryd.zeroValue5 (by rfl) rfl rfl (by rfl) (by rfl) (by rfl) ?_
    rintro A32 w32 f32 b32
    have qf32 := f32.cap
    have s32 := b32.size
    replace hw := hw.trans (b32.mono hw.size)
    replace f21 := f21.u b32
    replace f28 := f28.u b32
    replace f := f.u b32
    refine wl_slArrHi (12) Tryd.underlying76 Tryd.sizeOf5 rfl f rfl (by omega) (by omega) ?_
    rintro f33
    refine wl_appB Tryd.u8 rfl f32 (by rfl) rfl f33 (by simp; omega) (by simp; omega) (by omega) ?_
    rintro A34 c34 w34 f34 g34 b34 i34
    have qf34 := f34.cap
    have s34 := g34.size
    replace hw := hw.trans (b34.mono (by omega))
    replace f := f.y g34 (by decide)
    replace f28 := f28.k g34.g (f32.ap (by omega))
    replace f21 := f21.k g34.g (f32.ap (by omega))
    clear f33
    clear f32
    refine wl_p (fun _ => o_move rfl) ?_
    refine wl_appB Tryd.u8 rfl f34 rfl rfl f21.to_Rd rfl (by simp; omega) (by omega) ?_
    rintro A36 c36 w36 f36 g36 b36 i36
    have qf36 := f36.cap
    have s36 := g36.size
    replace hw := hw.trans (b36.mono (by omega))
    replace f21 := f21.k g36.g (f34.ap (by omega))
    replace f28 := f28.k g36.g (f34.ap (by omega))
    replace f := f.y g36 (by decide)
    clear f34
    refine wl_p (fun _ => o_assign rfl) ?_
    refine wl_p (fun _ => o_assign rfl) ?_
    refine wl_nil ?_
    have e : [] ++ q.take 12 ++ bd = r := by rw [List.nil_append, ← hr, pageL, hbd, hW4, ← hq]; rfl
    have hsz := hw.size
    rw [e] at f36
    refine ret2 rfl rfl rfl ?_
    exact ⟨A36, c36, by rw [e], f36.base (by omega) (by omega), hrl, hw⟩
  · refine callsR Tryd.func25 rfl rfl (by kernel_rfl) rfl ?_
    have hw := Below.refl w.heap.size w
    obtain ⟨m, hm⟩ : ∃ m, 500 - b.length = m := ⟨_, rfl⟩
    have hm2 : 500 - (b.length : Int) = (m : Int) := by omega
    have hbm : b ++ List.replicate m 0 = bd := by rw [← hbd, bodyL, hm]
    refine rk_seq ?_
    refine rk_region ?_
    refine wl_p (fun _ => o_assign rfl) ?_
    refine wl_p (fun _ => o_assign rfl) ?_
    refine wl_nil ?_
    refine rk_seq ?_
    refine rk_seq ?_
    refine rk_region ?_
    refine wl_p (fun _ => o_move rfl) ?_
    refine wl_p (fun _ => o_lt rfl rfl) ?_
    refine wl_p (fun _ => o_move rfl) ?_
    refine wl_p (fun _ => o_move rfl) ?_
    refine wl_p (fun _ => o_ge rfl rfl) ?_
    refine wl_p (fun _ => o_pick_f rfl rfl) ?_
    refine wl_p (fun _ => o_move rfl) ?_
    refine wl_know 14 false rfl (decide_eq_false (by omega)) ?_
    refine wl_p (fun _ => o_move rfl) ?_
    refine wl_p (fun _ => o_len (t := 22) Tryd.underlying22 rfl) ?_
    refine wl_p (fun _ => o_gt rfl rfl) ?_
    refine wl_p (fun _ => o_pick_f rfl rfl) ?_
    refine wl_nil ?_
    refine rk_if rfl (fun h18 => absurd h18 (by omega)) (fun h18 => ?_)
    refine rk_skip ?_
    refine rk_seq ?_
    refine rk_region ?_
    refine wl_litB [] Tryd.u8 Tryd.sizeOf5 Tryd.zeroValue5 (by rfl) rfl rfl (by rfl) (by rfl) (by rfl) ?_
    rintro A19 w19 f19 b19
    have qf19 := f19.cap
    have s19 := b19.size
    replace hw := hw.trans (b19.mono hw.size)
    refine wl_p (fun _ => o_move rfl) ?_
    refine wl_appB Tryd.u8 rfl f19 (by rfl) rfl (hb.u hw) rfl (by omega) hw.size ?_
    rintro A21 c21 w21 f21 g21 b21 i21
    have qf21 := f21.cap
    have s21 := g21.size
    replace hw := hw.trans (b21.mono (by omega))
    clear f19
    refine wl_p (fun _ => o_move rfl) ?_
    refine wl_p (fun _ => o_len (t := 22) Tryd.underlying22 rfl) ?_
    refine wl_p (fun _ => o_sub rfl rfl (by omega) (by omega)) ?_
    refine wl_appZx (500 - List.length b) rfl f21 rfl rfl (by omega) (by omega) (by simp; omega) hw.size ?_
    rintro A25 c25 w25 f25 g25 b25
    have qf25 := f25.cap
    have s25 := g25.size
    replace hw := hw.trans (b25.mono (by omega))
    clear f21
    refine wl_p (fun _ => o_assign rfl) ?_
    refine wl_nil ?_
    refine rk_seq ?_
    refine rk_region ?_
    refine wl_p (fun _ => o_move rfl) ?_
    refine wl_p (fun _ => o_convu64 (src := 3) (dst := 73) Tryd.underlying3 Tryd.underlying73 rfl (by omega) (by omega)) ?_
    refine wl_call rfl (C_refWord4 _ rfl rfl hW4 (by omega)) ?_
    rintro v28 w28 ⟨A28, ⟨c28, ⟨rfl, ⟨f28, b28⟩⟩⟩⟩
    have qf28 := f28.cap
    have s28 := b28.size
    replace hw := hw.trans (b28.mono hw.size)
    replace f25 := f25.u b28
    refine wl_p (fun _ => o_move rfl) ?_
    refine wl_litKr2 (by rfl) rfl f28.to_Rd f25.to_Rd rfl rfl (by omega) (by omega) (own_max' (by assumption)) (own_max' (by assumption)) (by rfl) ?_
    rintro A30 w30 f30 b30
    have s30 := b30.size
    replace hw := hw.trans (b30.mono hw.size)
    replace f25 := f25.u b30
    replace f28 := f28.u b30
    rw [List.nil_append, hm, hbm] at f30 f25
    rw [List.nil_append, hm, hbm]
    refine wl_call rfl (C_refSum _ f30 hq (by rfl) (by simp) (by omega)) ?_
    rintro v31 w31 ⟨rfl, b31⟩
    have s31 := b31.size
    replace hw := hw.trans (b31.mono hw.size)
    replace f28 := f28.u b31
    replace f25 := f25.u b31
    replace f30 := f30.u b31
    refine wl_allocB Tryd.underlying76 Tryd.zeroValue76 (by rfl) ?_
    rintro g7 w7 f7 b7 i7 i7_1
    have s7 := b7.size
    replace hw := hw.trans (b7.mono hw.size)
    replace f30 := f30.u b7
    replace f25 := f25.u b7
    replace f28 := f28.u b7
    refine wl_stBa Tryd.sizeOf76 rfl f7 rfl hql (by rfl) ?_
    rintro w_1 f g e
    have s := g.size
    replace hw := hw.trans (below_of_grownBy g.g hw.size (by omega))
    replace f28 := f28.k g.g (ap_some (by omega))
    replace f25 := f25.k g.g (ap_some (by omega))
    clear f30
    clear f7
    refine wl_nil ?_
    refine rk_seq ?_
    refine rk_region ?_
    refine wl_litB [] Tryd.u8 Tryd.sizeOf5 Tryd.zeroValue5 (by rfl) rfl rfl (by rfl) (by rfl) (by rfl) ?_
    rintro A32 w32 f32 b32
    have qf32 := f32.cap
    have s32 := b32.size
    replace hw := hw.trans (b32.mono hw.size)
    replace f25 := f25.u b32
    replace f28 := f28.u b32
    replace f := f.u b32
    refine wl_slArrHi (12) Tryd.underlying76 Tryd.sizeOf5 rfl f rfl (by omega) (by omega) ?_
    rintro f33
    refine wl_appB Tryd.u8 rfl f32 (by rfl) rfl f33 (by simp; omega) (by simp; omega) (by omega) ?_
    rintro A34 c34 w34 f34 g34 b34 i34
    have qf34 := f34.cap
    have s34 := g34.size
    replace hw := hw.trans (b34.mono (by omega))
    replace f := f.y g34 (by decide)
    replace f28 := f28.k g34.g (f32.ap (by omega))
    replace f25 := f25.k g34.g (f32.ap (by omega))
    clear f33
    clear f32
    refine wl_p (fun _ => o_move rfl) ?_
    refine wl_appB Tryd.u8 rfl f34 rfl rfl f25.to_Rd rfl (by simp; omega) (by omega) ?_
    rintro A36 c36 w36 f36 g36 b36 i36
    have qf36 := f36.cap
    have s36 := g36.size
    replace hw := hw.trans (b36.mono (by omega))
    replace f25 := f25.k g36.g (f34.ap (by omega))
    replace f28 := f28.k g36.g (f34.ap (by omega))
    replace f := f.y g36 (by decide)
    clear f34
    refine wl_p (fun _ => o_assign rfl) ?_
    refine wl_p (fun _ => o_assign rfl) ?_
    refine wl_nil ?_
    have e : [] ++ q.take 12 ++ bd = r := by rw [List.nil_append, ← hr, pageL, hbd, hW4, ← hq]; rfl
    have hsz := hw.size
    rw [e] at f36
    refine ret2 rfl rfl rfl ?_
    exact ⟨A36, c36, by rw [e], f36.base (by omega) (by omega), hrl, hw⟩
end Go.Proofs.YtklijaahbahcoaaDoor
