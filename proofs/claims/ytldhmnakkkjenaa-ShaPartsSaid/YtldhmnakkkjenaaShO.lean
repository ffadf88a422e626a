/-
  Walks of the reference for sums: a piece, all pieces, bytes, what is joined.
-/
import Derived.Test.YtldhmnakkkjenaaShN
namespace Go.Proofs.Ytldhmnakkkjenaa
open Go.RowKit
/-- The words while they are made. -/
def wsAt (p : By) (n : Nat) (q : List UInt64) : Prop := (n ≤ 16 ∧ q = ws80 p (8 * n)) ∨ (16 ≤ n ∧ q = wx p (n - 16) ++ List.replicate (64 - (n - 16)) 0)
theorem wsAt_len {p : By} {n : Nat} {q : List UInt64} (hn : n ≤ 80) (h : wsAt p n q) : q.length = 80 := by
  rcases h with ⟨_, rfl⟩ | ⟨h1, rfl⟩
  · exact ws80_len p _
  · rw [List.length_append, wx_len, List.length_replicate]; omega
theorem wsAt_low {p : By} {n : Nat} {q : List UInt64} (hp : p.length = 128) (h : wsAt p n q) (hn : n < 16) : q = ws80 p (8 * n) := by
  rcases h with ⟨_, h⟩ | ⟨h1, h⟩
  · exact h
  · omega
theorem wsAt_high {p : By} {n : Nat} {q : List UInt64} (hp : p.length = 128) (h : wsAt p (n + 16) q) : q = wx p n ++ List.replicate (64 - n) 0 := by
  rcases h with ⟨h1, h⟩ | ⟨h1, h⟩
  · obtain rfl : n = 0 := by omega
    rw [h]; exact wx_start hp
  · rw [h, Nat.add_sub_cancel]
theorem list_stOf {l : List UInt64} (hl : l.length = 8) : (stOf l).list = l := by
  match l, hl with
  | [a, b, c, d, e, f, g, h], _ => rfl
theorem zip_comm (l m : List UInt64) : List.zipWith (· + ·) l m = List.zipWith (· + ·) m l := by
  rw [List.zipWith_comm]; congr 1; funext a b; exact UInt64.add_comm _ _
set_option maxHeartbeats 4000000 in
set_option maxRecDepth 100000 in
theorem C_refpiece {l : List UInt64} {A : Option Addr} {p : By} {r : List UInt64} {n c : Nat} (w : World) (hpr : Rd w A p) (hr : pieceU l p = r) (hl : l.length = 8) (hp : p.length = 128) (hn : n = p.length) :
    CallsR Try.prog 42 [.agg (vU l).toArray, .slice A n c] w fun v w' => v = .agg (vU r).toArray ∧ Below w.heap.size w w' := by
  subst hn
  have hr8 : r.length = 8 := by rw [← hr]; exact pieceU_len p hl
  obtain ⟨W, hW⟩ : ∃ W, wx p 64 = W := ⟨_, rfl⟩
  have hW8 : W.length = 80 := by rw [← hW, wx_len]
  obtain ⟨kl, hkl⟩ : ∃ kl, Kl = kl := ⟨_, rfl⟩
  have hK8 : kl.length = 80 := by rw [← hkl]; rfl
  obtain ⟨s0, hs0⟩ : ∃ s0, stOf l = s0 := ⟨_, rfl⟩
  obtain ⟨R, hR⟩ : ∃ R, rnds kl W 80 s0 = R := ⟨_, rfl⟩
  have hrr : r = List.zipWith (· + ·) l R.list := by
    rw [← hr, ← hR, ← hkl, ← hW, ← hs0]; rfl
  refine callsR Try.func42 rfl rfl (by kernel_rfl) rfl ?_
  have hw := Below.refl w.heap.size w
  refine rk_seq ?_
  refine rk_region ?_
  refine wl_boxg _ rfl (by rfl) ?_
  rintro g2 w2 f2 b2 i2 i2_1
  have s2 := b2.size
  replace hw := hw.trans (b2.mono hw.size)
  refine wl_allocU Try.underlying28 Try.zeroValue28 (by rfl) ?_
  rintro g4 w4 f4 b4 i4 i4_1
  have s4 := b4.size
  replace hw := hw.trans (b4.mono hw.size)
  replace f2 := f2.u b4
  refine wl_nil ?_
  refine rk_seq ?_
  refine rk_region ?_
  refine wl_call rfl (C_refK _ hkl) ?_
  rintro v18 w18 ⟨rfl, b18⟩
  have s18 := b18.size
  replace hw := hw.trans (b18.mono hw.size)
  replace f2 := f2.u b18
  replace f4 := f4.u b18
  refine wl_alloc80 ?_
  rintro g5 w5 f5 b5 i5 i5_1
  have s5 := b5.size
  replace hw := hw.trans (b5.mono hw.size)
  replace f4 := f4.u b5
  replace f2 := f2.u b5
  refine wl_stUa Try.sizeOf26 rfl f5 rfl (by omega) (by rfl) ?_
  rintro w_1 f g e
  have s := g.size
  replace hw := hw.trans (below_of_grownBy g.g hw.size (by omega))
  replace f2 := f2.k g.g (ap_some (by omega))
  replace f4 := f4.k g.g (ap_some (by omega))
  clear f5
  refine wl_nil ?_
  refine rk_seq ?_
  refine rk_region ?_
  refine wl_alloc80 ?_
  rintro g6 w6 f6 b6 i6 i6_1
  have s6 := b6.size
  replace hw := hw.trans (b6.mono hw.size)
  replace f4 := f4.u b6
  replace f2 := f2.u b6
  replace f := f.u b6
  refine wl_nil ?_
  refine rk_seq ?_
  refine rk_seq ?_
  refine rk_region ?_
  refine wl_p (fun _ => o_assign rfl) ?_
  refine wl_nil ?_
  refine rk_block ?_
  refine rk_joinf (fun fb fr w5 => fr = [] ++ fb.drop 1 ∧ Blk w5 g6 26 (vU W) ∧ Blk w5 g5 26 (vU kl) ∧ Blk w5 g2 28 (vU l) ∧ Blk w5 g4 28 (vU (List.replicate 8 0)) ∧ w6.heap.size ≤ w5.heap.size ∧ Below w.heap.size w w5) ?_ (fun ks hj => ?_)
  rotate_left
  · refine rk_loopf (fun fb m fr w5 => ∃ (n : Nat) (v : Int) (q : List UInt64), fr = [(7, .int .i64 v)] ++ fb.drop 1 ∧ v = n ∧ n ≤ 80 ∧ m = 80 - n ∧ wsAt p n q ∧ Blk w5 g6 26 (vU q) ∧ Blk w5 g5 26 (vU kl) ∧ Blk w5 g2 28 (vU l) ∧ Blk w5 g4 28 (vU (List.replicate 8 0)) ∧ w6.heap.size ≤ w5.heap.size ∧ Below w.heap.size w w5) (n := 80) (Fr.le_of (by kernel_rfl) (by kernel_rfl) (by repeat' constructor)) ⟨0, _, _, rfl, rfl, by omega, rfl, .inl ⟨by omega, (ws80_zero p).symm⟩, f6, f, f2, f4, Nat.le_refl _, hw⟩ ?_
    clear hw f6 f f2 f4
    rintro m fr w5 ⟨n, v, q, rfl, rfl, hn, rfl, hq, f6, f, f2, f4, hsz, hw⟩
    have shw := hw.size
    have hql := wsAt_len hn hq
    first | refine rk_frame (by simp only [List.cons_append, List.nil_append, List.drop_succ_cons, List.drop_zero]; rfl) ?_ | refine wl_frame (by simp only [List.cons_append, List.nil_append, List.drop_succ_cons, List.drop_zero]; rfl) ?_
    refine rk_seq ?_
    refine rk_seq ?_
    refine rk_region ?_
    refine wl_p (fun _ => o_move rfl) ?_
    refine wl_p (fun _ => o_lt rfl rfl) ?_
    refine wl_nil ?_
    refine rk_if rfl (fun h20 => ?_) (fun h20 => ?_)
    · refine rk_skip ?_
      refine rk_seq ?_
      refine rk_block ?_
      refine rk_seq ?_
      refine rk_seq ?_
      refine rk_region ?_
      refine wl_p (fun _ => o_move rfl) ?_
      refine wl_p (fun _ => o_lt rfl rfl) ?_
      refine wl_nil ?_
      refine rk_if rfl (fun h24 => ?_) (fun h24 => ?_)
      · have hq8 := wsAt_low hp hq (by omega)
        refine rk_seq ?_
        refine rk_seq ?_
        refine rk_region ?_
        refine wl_p (fun _ => o_assign rfl) ?_
        refine wl_nil ?_
        refine rk_block ?_
        refine rk_joinf (fun fb fr w7 => fr = [] ++ fb.drop 1 ∧ Blk w7 g6 26 (vU (ws80 p (8 * (n + 1)))) ∧ Blk w7 g5 26 (vU kl) ∧ Blk w7 g2 28 (vU l) ∧ Blk w7 g4 28 (vU (List.replicate 8 0)) ∧ w6.heap.size ≤ w7.heap.size ∧ Below w.heap.size w w7) ?_ (fun ks2 hj2 => ?_)
        rotate_left
        · refine rk_loopf (fun fb m fr w7 => ∃ (i : Nat) (v : Int) (q2 : List UInt64), fr = [(8, .int .i64 v)] ++ fb.drop 1 ∧ v = i ∧ i ≤ 8 ∧ m = 8 - i ∧ q2 = ws80 p (8 * n + i) ∧ Blk w7 g6 26 (vU q2) ∧ Blk w7 g5 26 (vU kl) ∧ Blk w7 g2 28 (vU l) ∧ Blk w7 g4 28 (vU (List.replicate 8 0)) ∧ w6.heap.size ≤ w7.heap.size ∧ Below w.heap.size w w7) (n := 8) (Fr.le_of (by kernel_rfl) (by kernel_rfl) (by repeat' constructor)) ⟨0, _, q, rfl, rfl, by omega, rfl, hq8, f6, f, f2, f4, hsz, hw⟩ ?_
          clear hw f6 f f2 f4
          rintro m fr w7 ⟨i, v, q2, rfl, rfl, hi, rfl, hq2, f6, f, f2, f4, hsz7, hw⟩
          have shw7 := hw.size
          have hq2l : q2.length = 80 := by rw [hq2]; exact ws80_len _ _
          first | refine rk_frame (by simp only [List.cons_append, List.nil_append, List.drop_succ_cons, List.drop_zero]; rfl) ?_ | refine wl_frame (by simp only [List.cons_append, List.nil_append, List.drop_succ_cons, List.drop_zero]; rfl) ?_
          refine rk_seq ?_
          refine rk_seq ?_
          refine rk_region ?_
          refine wl_p (fun _ => o_move rfl) ?_
          refine wl_p (fun _ => o_lt rfl rfl) ?_
          refine wl_nil ?_
          refine rk_if rfl (fun h26 => ?_) (fun h26 => ?_)
          · have hil : 8 * n + i < p.length := by omega
            have hnx := ws80_next hil (by rw [ws80_len]; omega)
            refine rk_skip ?_
            refine rk_seq ?_
            refine rk_block ?_
            refine rk_draw (id := 10) (none) [0, 0, 2, 4, 8, 0, 0, 64, 0, 384, 544, 1024, 2048, 4112, 16383, 32767] [0, 0, 2, 6, 14, 0, 0, 64, 0, 448, 992, 2016, 4064, 8190, 16383, 32767] 32768 0 [(.p, 0), (.p, 1), (.p, 2), (.r, 3), (.p, 4), (.p, 5), (.p, 6), (.p, 7), (.p, 8), (.p, 9), (.p, 10), (.r, 11), (.p, 12), (.p, 13), (.p, 14), (.l, 15)] (by kernel_rfl) (by kernel_rfl) (by kernel_rfl) (by kernel_rfl) (by kernel_rfl) ?_
            replace hw := hw.drew
            replace f4 := f4.d
            replace f2 := f2.d
            replace f := f.d
            replace f6 := f6.d
            refine wl_p (fun _ => o_move rfl) ?_
            refine wl_p (fun _ => o_move rfl) ?_
            refine wl_p (fun _ => (o_iaddrP (n) Try.underlying26 Try.sizeOf25 rfl rfl rfl (by omega))) ?_
            refine wl_r (o_ldU Try.isAgg25 rfl f6 (by omega)) ?_
            refine wl_p (fun _ => o_shlU rfl rfl (by omega) (by omega)) ?_
            refine wl_p (fun _ => o_move rfl) ?_
            refine wl_p (fun _ => o_move rfl) ?_
            refine wl_p (fun _ => o_mul rfl rfl (by omega) (by omega)) ?_
            refine wl_p (fun _ => o_move rfl) ?_
            refine wl_p (fun _ => o_add rfl rfl (by omega) (by omega)) ?_
            refine wl_p (fun _ => (o_iaddrA1 (8 * n + i) Try.underlying39 Try.sizeOf5 rfl rfl (by omega) (Reads.some_ hpr.to_Reads (by decide) (by omega)) (by omega))) ?_
            refine wl_r (o_loadB Try.isAgg5 rfl (hpr.u hw) (by omega)) ?_
            refine wl_p (fun _ => o_conv8U (src := 5) (dst := 25) Try.underlying5 Try.underlying25 rfl) ?_
            refine wl_p (fun _ => o_orU rfl rfl) ?_
            refine wl_p (fun _ => (o_iaddrP (n) Try.underlying26 Try.sizeOf25 rfl rfl rfl (by omega))) ?_
            refine wl_stU Try.sizeOf25 rfl f6 rfl (by omega) ?_
            rintro w_2 f_1 g_1 e_1
            simp only [drew_size] at e_1
            have s_1 := g_1.size
            simp only [drew_size] at s_1
            replace hw := hw.trans (below_of_grownBy g_1.g hw.size (by omega))
            clear f6
            replace f := f.k g_1.g (ap_some (by omega))
            replace f2 := f2.k g_1.g (ap_some (by omega))
            replace f4 := f4.k g_1.g (ap_some (by omega))
            refine wl_nild ?_
            refine rk_blk ?_
            refine rk_region ?_
            refine wl_p (fun _ => o_move rfl) ?_
            refine wl_p (fun _ => o_add rfl rfl (by omega) (by omega)) ?_
            refine wl_p (fun _ => o_assign rfl) ?_
            refine wl_nil ?_
            exact rk_againf (Fr.le_of (by kernel_rfl) (by kernel_rfl) (by repeat' constructor)) ⟨i + 1, (i : Int) + 1, _, rfl, by omega, by omega, rfl, by
              subst hq2
              have e : (8 * n + i) / 8 = n := by omega
              simp only [e] at hnx
              rw [show 8 * n + (i + 1) = 8 * n + i + 1 by omega]
              exact hnx, f_1, f, f2, f4, by omega, hw⟩ (by omega)
          · refine rk_exit rfl ?_
            obtain rfl : i = 8 := by omega
            rw [hq2] at f6
            exact rk_tof hj2 (Fr.le_of (by kernel_rfl) (by kernel_rfl) (by repeat' constructor)) ⟨rfl, f6, f, f2, f4, hsz7, hw⟩
        clear hw f6 f f2 f4
        rintro fr w7 ⟨rfl, f6, f, f2, f4, hsz7, hw⟩
        have shw7 := hw.size
        first | refine rk_frame (by simp only [List.cons_append, List.nil_append, List.drop_succ_cons, List.drop_zero]; rfl) ?_ | refine wl_frame (by simp only [List.cons_append, List.nil_append, List.drop_succ_cons, List.drop_zero]; rfl) ?_
        refine rk_exit rfl ?_
        refine rk_region ?_
        refine wl_p (fun _ => o_move rfl) ?_
        refine wl_p (fun _ => o_add rfl rfl (by omega) (by omega)) ?_
        refine wl_p (fun _ => o_assign rfl) ?_
        refine wl_nil ?_
        exact rk_againf (Fr.le_of (by kernel_rfl) (by kernel_rfl) (by repeat' constructor)) ⟨n + 1, (n : Int) + 1, _, rfl, by omega, by omega, rfl, .inl ⟨by omega, rfl⟩, f6, f, f2, f4, hsz7, hw⟩ (by omega)
      · obtain ⟨k, rfl⟩ : ∃ k, n = k + 16 := ⟨n - 16, by omega⟩
        have hq3 := wsAt_high hp hq
        have hkq : k + 16 - 16 < q.length := by omega
        have hkq2 : k + 16 - 7 < q.length := by omega
        refine rk_skip ?_
        refine rk_seq ?_
        refine rk_draw (id := 11) (none) [0, 1, 2, 4, 0, 16, 32, 64, 15, 511] [0, 1, 3, 7, 0, 16, 48, 112, 15, 511] 0 0 [(.p, 0), (.p, 1), (.p, 2), (.r, 3), (.p, 4), (.p, 5), (.p, 6), (.r, 7), (.p, 8), (.p, 9)] (by kernel_rfl) (by kernel_rfl) (by kernel_rfl) (by kernel_rfl) (by kernel_rfl) ?_
        replace hw := hw.drew
        replace f4 := f4.d
        replace f2 := f2.d
        replace f := f.d
        replace f6 := f6.d
        refine wl_p (fun _ => o_move rfl) ?_
        refine wl_p (fun _ => o_sub rfl rfl (by omega) (by omega)) ?_
        refine wl_p (fun _ => (o_iaddrP (k + 16 - 15) Try.underlying26 Try.sizeOf25 rfl rfl (by omega) (by omega))) ?_
        refine wl_r (o_ldU Try.isAgg25 rfl f6 (by omega)) ?_
        refine wl_p (fun _ => o_move rfl) ?_
        refine wl_p (fun _ => o_sub rfl rfl (by omega) (by omega)) ?_
        refine wl_p (fun _ => (o_iaddrP (k + 16 - 2) Try.underlying26 Try.sizeOf25 rfl rfl (by omega) (by omega))) ?_
        refine wl_r (o_ldU Try.isAgg25 rfl f6 (by omega)) ?_
        refine wl_p (fun _ => o_assign rfl) ?_
        refine wl_p (fun _ => o_assign rfl) ?_
        refine wl_nild ?_
        refine rk_drawo (id := 12) (none) [0, 0, 2, 4, 8, 0, 32, 0, 192, 320, 0, 1024, 2560, 4112, 0, 16384, 32768, 65536, 139264, 0, 524544, 0, 3145728, 5242880, 0, 16777216, 41943040, 67371008, 268435455, 536870911] [0, 0, 2, 6, 14, 0, 32, 0, 224, 480, 0, 1024, 4064, 8190, 0, 16384, 49152, 114688, 262142, 0, 524768, 0, 3670496, 7864800, 0, 16777216, 66585056, 134217726, 268435455, 536870911] 542114112 5243200 [0, 1, 2, 3, 4, 5, 7, 10, 11, 14, 15, 16, 17, 19, 21, 24, 25, 6, 8, 9, 12, 13, 18, 20, 22, 23, 26, 27, 28, 29] [(.p, 0), (.p, 1), (.p, 2), (.p, 3), (.s, 4), (.p, 5), (.p, 7), (.p, 10), (.p, 11), (.p, 14), (.p, 15), (.p, 16), (.s, 17), (.p, 19), (.p, 21), (.p, 24), (.p, 25), (.c, 6), (.c, 8), (.p, 9), (.p, 12), (.p, 13), (.p, 18), (.c, 20), (.c, 22), (.p, 23), (.p, 26), (.p, 27), (.p, 28), (.l, 29)] (by kernel_rfl) (by kernel_rfl) (by kernel_rfl) (by kernel_rfl) (by kernel_rfl) ?_
        dsimp only [inOrder, nthOp]
        replace hw := hw.drew
        replace f6 := f6.d
        replace f := f.d
        replace f2 := f2.d
        replace f4 := f4.d
        refine wl_p (fun _ => o_move rfl) ?_
        refine wl_p (fun _ => o_move rfl) ?_
        refine wl_p (fun _ => o_sub rfl rfl (by omega) (by omega)) ?_
        refine wl_p (fun _ => (o_iaddrP (k + 16 - 16) Try.underlying26 Try.sizeOf25 rfl rfl (by omega) (by omega))) ?_
        refine wl_s (fun _ hk => (o_ldU Try.isAgg25 rfl (f6.u (below_of_grown_none hk)) hkq)) ?_
        refine wl_p (fun _ => o_move rfl) ?_
        refine wl_p (fun _ => o_move rfl) ?_
        refine wl_p (fun _ => o_move rfl) ?_
        refine wl_p (fun _ => o_shrU rfl rfl (by omega) (by omega)) ?_
        refine wl_p (fun _ => o_move rfl) ?_
        refine wl_p (fun _ => o_sub rfl rfl (by omega) (by omega)) ?_
        refine wl_p (fun _ => (o_iaddrP (k + 16 - 7) Try.underlying26 Try.sizeOf25 rfl rfl (by omega) (by omega))) ?_
        refine wl_s (fun _ hk => (o_ldU Try.isAgg25 rfl (f6.u (below_of_grown_none hk)) hkq2)) ?_
        refine wl_p (fun _ => o_move rfl) ?_
        refine wl_p (fun _ => o_move rfl) ?_
        refine wl_p (fun _ => o_move rfl) ?_
        refine wl_p (fun _ => o_shrU rfl rfl (by omega) (by omega)) ?_
        refine wl_call rfl (C_refrot _ (by omega) (by omega)) ?_ (hq := .inr fun _ _ h => grown_of_below h.2 _)
        rintro v58 w58 ⟨rfl, b58⟩
        simp only [drew_size] at b58
        have s58 := b58.size
        simp only [drew_size] at s58
        replace hw := hw.trans (b58.mono hw.size)
        replace f4 := f4.u b58
        replace f2 := f2.u b58
        replace f := f.u b58
        replace f6 := f6.u b58
        refine wl_call rfl (C_refrot _ (by omega) (by omega)) ?_ (hq := .inr fun _ _ h => grown_of_below h.2 _)
        rintro v60 w60 ⟨rfl, b60⟩
        have s60 := b60.size
        replace hw := hw.trans (b60.mono hw.size)
        replace f6 := f6.u b60
        replace f := f.u b60
        replace f2 := f2.u b60
        replace f4 := f4.u b60
        refine wl_p (fun _ => o_xorU rfl rfl) ?_
        refine wl_p (fun _ => o_xorU rfl rfl) ?_
        refine wl_p (fun _ => o_addU rfl rfl) ?_
        refine wl_p (fun _ => o_addU rfl rfl) ?_
        refine wl_call rfl (C_refrot _ (by omega) (by omega)) ?_ (hq := .inr fun _ _ h => grown_of_below h.2 _)
        rintro v72 w72 ⟨rfl, b72⟩
        have s72 := b72.size
        replace hw := hw.trans (b72.mono hw.size)
        replace f4 := f4.u b72
        replace f2 := f2.u b72
        replace f := f.u b72
        replace f6 := f6.u b72
        refine wl_call rfl (C_refrot _ (by omega) (by omega)) ?_ (hq := .inr fun _ _ h => grown_of_below h.2 _)
        rintro v74 w74 ⟨rfl, b74⟩
        have s74 := b74.size
        replace hw := hw.trans (b74.mono hw.size)
        replace f6 := f6.u b74
        replace f := f.u b74
        replace f2 := f2.u b74
        replace f4 := f4.u b74
        refine wl_p (fun _ => o_xorU rfl rfl) ?_
        refine wl_p (fun _ => o_xorU rfl rfl) ?_
        refine wl_p (fun _ => o_addU rfl rfl) ?_
        refine wl_p (fun _ => (o_iaddrP (k + 16) Try.underlying26 Try.sizeOf25 rfl rfl rfl (by omega))) ?_
        refine wl_stU Try.sizeOf25 rfl f6 rfl (by omega) ?_
        rintro w_2 f_1 g_1 e_1
        have s_1 := g_1.size
        replace hw := hw.trans (below_of_grownBy g_1.g hw.size (by omega))
        replace f4 := f4.k g_1.g (ap_some (by omega))
        replace f2 := f2.k g_1.g (ap_some (by omega))
        replace f := f.k g_1.g (ap_some (by omega))
        clear f6
        refine wl_nild ?_
        refine rk_blk ?_
        refine rk_region ?_
        refine wl_p (fun _ => o_move rfl) ?_
        refine wl_p (fun _ => o_add rfl rfl (by omega) (by omega)) ?_
        refine wl_p (fun _ => o_assign rfl) ?_
        refine wl_nil ?_
        exact rk_againf (Fr.le_of (by kernel_rfl) (by kernel_rfl) (by repeat' constructor)) ⟨k + 16 + 1, ((k + 16 : Nat) : Int) + 1, _, rfl, by omega, by omega, rfl, .inr ⟨by omega, by
          rw [show k + 16 + 1 - 16 = k + 1 by omega]
          exact sched_next (by omega) hq3 hkq (by omega) hkq2 (by omega)⟩, f_1, f, f2, f4, by omega, hw⟩ (by omega)
    · refine rk_exit rfl ?_
      obtain rfl : n = 80 := by omega
      have hqW := wsAt_high (n := 64) hp hq
      rw [hqW, hW, Nat.sub_self, List.replicate_zero, List.append_nil] at f6
      exact rk_tof hj (Fr.le_of (by kernel_rfl) (by kernel_rfl) (by repeat' constructor)) ⟨rfl, f6, f, f2, f4, hsz, hw⟩
  clear hw f6 f f2 f4
  rintro fr w5 ⟨rfl, f6, f, f2, f4, hsz, hw⟩
  have shw := hw.size
  first | refine rk_frame (by simp only [List.cons_append, List.nil_append, List.drop_succ_cons, List.drop_zero]; rfl) ?_ | refine wl_frame (by simp only [List.cons_append, List.nil_append, List.drop_succ_cons, List.drop_zero]; rfl) ?_
  refine rk_seq ?_
  refine rk_region ?_
  refine wl_r (o_ldUa Try.isAgg28 Try.sizeOf28 rfl f2 (by omega)) ?_
  refine wl_allocU Try.underlying28 Try.zeroValue28 (by rfl) ?_
  rintro g11 w11 f11 b11 i11 i11_1
  have sb11 := b11.size
  replace hw := hw.trans (b11.mono hw.size)
  replace f4 := f4.u b11
  replace f2 := f2.u b11
  replace f := f.u b11
  replace f6 := f6.u b11
  refine wl_stUa Try.sizeOf28 rfl f11 rfl (by omega) (by rfl) ?_
  rintro w_2 f_1 g_1 e_1
  have s_1 := g_1.size
  replace hw := hw.trans (below_of_grownBy g_1.g hw.size (by omega))
  replace f6 := f6.k g_1.g (ap_some (by omega))
  replace f := f.k g_1.g (ap_some (by omega))
  replace f2 := f2.k g_1.g (ap_some (by omega))
  replace f4 := f4.k g_1.g (ap_some (by omega))
  clear f11
  refine wl_nil ?_
  refine rk_seq ?_
  refine rk_seq ?_
  refine rk_region ?_
  refine wl_p (fun _ => o_assign rfl) ?_
  refine wl_nil ?_
  refine rk_block ?_
  refine rk_joinf (fun fb fr w7 => ∃ sl, fr = [] ++ fb.drop 1 ∧ sl.length = 8 ∧ stOf sl = R ∧ Blk w7 g11 28 (vU sl) ∧ Blk w7 g6 26 (vU W) ∧ Blk w7 g5 26 (vU kl) ∧ Blk w7 g2 28 (vU l) ∧ Blk w7 g4 28 (vU (List.replicate 8 0)) ∧ w_2.heap.size ≤ w7.heap.size ∧ Below w.heap.size w w7) ?_ (fun ks hj => ?_)
  rotate_left
  · refine rk_loopf (fun fb m fr w7 => ∃ (i : Nat) (v : Int) (sl : List UInt64), fr = [(12, .int .i64 v)] ++ fb.drop 1 ∧ v = i ∧ i ≤ 80 ∧ m = 80 - i ∧ sl.length = 8 ∧ stOf sl = rnds kl W i s0 ∧ Blk w7 g11 28 (vU sl) ∧ Blk w7 g6 26 (vU W) ∧ Blk w7 g5 26 (vU kl) ∧ Blk w7 g2 28 (vU l) ∧ Blk w7 g4 28 (vU (List.replicate 8 0)) ∧ w_2.heap.size ≤ w7.heap.size ∧ Below w.heap.size w w7) (n := 80) (Fr.le_of (by kernel_rfl) (by kernel_rfl) (by repeat' constructor)) ⟨0, _, l, rfl, rfl, by omega, rfl, hl, hs0, f_1, f6, f, f2, f4, Nat.le_refl _, hw⟩ ?_
    clear hw f_1 f6 f f2 f4
    rintro m fr w7 ⟨i, v, sl, rfl, rfl, hi, rfl, hsl, hss, f11, f6, f, f2, f4, hsz7, hw⟩
    have shw7 := hw.size
    first | refine rk_frame (by simp only [List.cons_append, List.nil_append, List.drop_succ_cons, List.drop_zero]; rfl) ?_ | refine wl_frame (by simp only [List.cons_append, List.nil_append, List.drop_succ_cons, List.drop_zero]; rfl) ?_
    refine rk_seq ?_
    refine rk_seq ?_
    refine rk_region ?_
    refine wl_p (fun _ => o_move rfl) ?_
    refine wl_p (fun _ => o_lt rfl rfl) ?_
    refine wl_nil ?_
    refine rk_if rfl (fun h83 => ?_) (fun h83 => ?_)
    · have hik : i < kl.length := by omega
      have hiW : i < W.length := by omega
      have hnx := rnds_next hss.symm.symm hik hiW
      have h1 : 1 < sl.length := by omega
      have h2 : 2 < sl.length := by omega
      have h5 : 5 < sl.length := by omega
      have h6 : 6 < sl.length := by omega
      have h7 : 7 < sl.length := by omega
      refine rk_skip ?_
      refine rk_seq ?_
      refine rk_block ?_
      refine rk_seq ?_
      refine rk_draw (id := 17) (none) [0, 1, 0, 4, 3, 31] [0, 1, 0, 4, 3, 31] 0 0 [(.p, 0), (.r, 1), (.p, 2), (.r, 3), (.p, 4), (.p, 5)] (by kernel_rfl) (by kernel_rfl) (by kernel_rfl) (by kernel_rfl) (by kernel_rfl) ?_
      replace hw := hw.drew
      replace f4 := f4.d
      replace f2 := f2.d
      replace f := f.d
      replace f6 := f6.d
      replace f11 := f11.d
      refine wl_p (fun _ => (o_iaddrP (0) Try.underlying28 Try.sizeOf25 rfl rfl (by omega) (by omega))) ?_
      refine wl_r (o_ldU Try.isAgg25 rfl f11 (by omega)) ?_
      refine wl_p (fun _ => (o_iaddrP (4) Try.underlying28 Try.sizeOf25 rfl rfl (by omega) (by omega))) ?_
      refine wl_r (o_ldU Try.isAgg25 rfl f11 (by omega)) ?_
      refine wl_p (fun _ => o_assign rfl) ?_
      refine wl_p (fun _ => o_assign rfl) ?_
      refine wl_nild ?_
      refine rk_seq ?_
      refine rk_drawo (id := 18) (none) [0, 1, 0, 4, 0, 24, 40, 0, 160, 320, 514, 0, 0, 4096, 10240, 0, 32768, 0, 131072, 327680, 540672, 1049600, 0, 4194304, 8388608, 18874368, 0, 67108864, 134217728, 301989888, 1073741823] [0, 1, 0, 4, 0, 28, 60, 0, 188, 508, 1023, 0, 0, 4096, 14336, 0, 32768, 0, 131072, 491520, 1046528, 2097151, 0, 4194304, 12582912, 33554431, 0, 67108864, 201326592, 536870911, 1073741823] 296 296 [0, 1, 2, 4, 7, 11, 12, 13, 14, 15, 16, 17, 18, 19, 20, 22, 23, 24, 26, 27, 28, 3, 5, 6, 8, 9, 10, 21, 25, 29, 30] [(.p, 0), (.s, 1), (.p, 2), (.p, 4), (.p, 7), (.p, 11), (.p, 12), (.s, 13), (.p, 14), (.p, 15), (.p, 16), (.p, 17), (.s, 18), (.p, 19), (.p, 20), (.p, 22), (.p, 23), (.s, 24), (.p, 26), (.p, 27), (.s, 28), (.c, 3), (.c, 5), (.p, 6), (.c, 8), (.p, 9), (.p, 10), (.p, 21), (.p, 25), (.p, 29), (.p, 30)] (by kernel_rfl) (by kernel_rfl) (by kernel_rfl) (by kernel_rfl) (by kernel_rfl) ?_
      dsimp only [inOrder, nthOp]
      replace hw := hw.drew
      replace f11 := f11.d
      replace f6 := f6.d
      replace f := f.d
      replace f2 := f2.d
      replace f4 := f4.d
      refine wl_p (fun _ => (o_iaddrP (7) Try.underlying28 Try.sizeOf25 rfl rfl (by omega) (by omega))) ?_
      refine wl_s (fun _ hk => (o_ldU Try.isAgg25 rfl (f11.u (below_of_grown_none hk)) h7)) ?_
      refine wl_p (fun _ => o_move rfl) ?_
      refine wl_p (fun _ => o_move rfl) ?_
      refine wl_p (fun _ => o_move rfl) ?_
      refine wl_p (fun _ => o_move rfl) ?_
      refine wl_p (fun _ => (o_iaddrP (5) Try.underlying28 Try.sizeOf25 rfl rfl (by omega) (by omega))) ?_
      refine wl_s (fun _ hk => (o_ldU Try.isAgg25 rfl (f11.u (below_of_grown_none hk)) h5)) ?_
      refine wl_p (fun _ => o_andU rfl rfl) ?_
      refine wl_p (fun _ => o_move rfl) ?_
      refine wl_p (fun _ => o_notU rfl) ?_
      refine wl_p (fun _ => (o_iaddrP (6) Try.underlying28 Try.sizeOf25 rfl rfl (by omega) (by omega))) ?_
      refine wl_s (fun _ hk => (o_ldU Try.isAgg25 rfl (f11.u (below_of_grown_none hk)) h6)) ?_
      refine wl_p (fun _ => o_andU rfl rfl) ?_
      refine wl_p (fun _ => o_xorU rfl rfl) ?_
      refine wl_p (fun _ => o_move rfl) ?_
      refine wl_p (fun _ => (o_iaddrP (i) Try.underlying26 Try.sizeOf25 rfl rfl rfl (by omega))) ?_
      refine wl_s (fun _ hk => (o_ldU Try.isAgg25 rfl (f.u (below_of_grown_none hk)) hik)) ?_
      refine wl_p (fun _ => o_move rfl) ?_
      refine wl_p (fun _ => (o_iaddrP (i) Try.underlying26 Try.sizeOf25 rfl rfl rfl (by omega))) ?_
      refine wl_s (fun _ hk => (o_ldU Try.isAgg25 rfl (f6.u (below_of_grown_none hk)) hiW)) ?_
      refine wl_call rfl (C_refrot _ (by omega) (by omega)) ?_ (hq := .inr fun _ _ h => grown_of_below h.2 _)
      rintro v93 w93 ⟨rfl, b93⟩
      simp only [drew_size] at b93
      have s93 := b93.size
      simp only [drew_size] at s93
      replace hw := hw.trans (b93.mono hw.size)
      replace f4 := f4.u b93
      replace f2 := f2.u b93
      replace f := f.u b93
      replace f6 := f6.u b93
      replace f11 := f11.u b93
      refine wl_call rfl (C_refrot _ (by omega) (by omega)) ?_ (hq := .inr fun _ _ h => grown_of_below h.2 _)
      rintro v95 w95 ⟨rfl, b95⟩
      have s95 := b95.size
      replace hw := hw.trans (b95.mono hw.size)
      replace f11 := f11.u b95
      replace f6 := f6.u b95
      replace f := f.u b95
      replace f2 := f2.u b95
      replace f4 := f4.u b95
      refine wl_p (fun _ => o_xorU rfl rfl) ?_
      refine wl_call rfl (C_refrot _ (by omega) (by omega)) ?_ (hq := .inr fun _ _ h => grown_of_below h.2 _)
      rintro v98 w98 ⟨rfl, b98⟩
      have s98 := b98.size
      replace hw := hw.trans (b98.mono hw.size)
      replace f4 := f4.u b98
      replace f2 := f2.u b98
      replace f := f.u b98
      replace f6 := f6.u b98
      replace f11 := f11.u b98
      refine wl_p (fun _ => o_xorU rfl rfl) ?_
      refine wl_p (fun _ => o_addU rfl rfl) ?_
      refine wl_p (fun _ => o_addU rfl rfl) ?_
      refine wl_p (fun _ => o_addU rfl rfl) ?_
      refine wl_p (fun _ => o_addU rfl rfl) ?_
      refine wl_p (fun _ => o_assign rfl) ?_
      obtain ⟨T1, hT1⟩ : ∃ T1, sl[7] + (rotU sl[4] (-14) ^^^ rotU sl[4] (-18) ^^^ rotU sl[4] (-41)) + (sl[4] &&& sl[5] ^^^ ~~~sl[4] &&& sl[6]) + kl[i] + W[i] = T1 := ⟨_, rfl⟩
      rw [hT1]
      refine wl_nild ?_
      refine rk_seq ?_
      refine rk_drawo (id := 19) (none) [0, 1, 0, 6, 10, 0, 40, 80, 0, 0, 512, 1280, 0, 0, 8192, 20480, 34816, 0, 131072, 0, 524288, 1310720, 2162688, 4194432, 16777215] [0, 1, 0, 7, 15, 0, 47, 127, 0, 0, 512, 1792, 0, 0, 8192, 28672, 65280, 0, 131072, 0, 524288, 1966080, 4194048, 8388607, 16777215] 74 74 [0, 2, 5, 8, 9, 10, 11, 12, 13, 14, 15, 16, 17, 18, 19, 20, 21, 22, 1, 3, 4, 6, 7, 23, 24] [(.p, 0), (.p, 2), (.p, 5), (.p, 8), (.p, 9), (.s, 10), (.p, 11), (.p, 12), (.p, 13), (.s, 14), (.p, 15), (.p, 16), (.p, 17), (.s, 18), (.p, 19), (.s, 20), (.p, 21), (.p, 22), (.c, 1), (.c, 3), (.p, 4), (.c, 6), (.p, 7), (.p, 23), (.p, 24)] (by kernel_rfl) (by kernel_rfl) (by kernel_rfl) (by kernel_rfl) (by kernel_rfl) ?_
      dsimp only [inOrder, nthOp]
      replace hw := hw.drew
      replace f11 := f11.d
      replace f6 := f6.d
      replace f := f.d
      replace f2 := f2.d
      replace f4 := f4.d
      refine wl_p (fun _ => o_move rfl) ?_
      refine wl_p (fun _ => o_move rfl) ?_
      refine wl_p (fun _ => o_move rfl) ?_
      refine wl_p (fun _ => o_move rfl) ?_
      refine wl_p (fun _ => (o_iaddrP (1) Try.underlying28 Try.sizeOf25 rfl rfl (by omega) (by omega))) ?_
      refine wl_s (fun _ hk => (o_ldU Try.isAgg25 rfl (f11.u (below_of_grown_none hk)) h1)) ?_
      refine wl_p (fun _ => o_andU rfl rfl) ?_
      refine wl_p (fun _ => o_move rfl) ?_
      refine wl_p (fun _ => (o_iaddrP (2) Try.underlying28 Try.sizeOf25 rfl rfl (by omega) (by omega))) ?_
      refine wl_s (fun _ hk => (o_ldU Try.isAgg25 rfl (f11.u (below_of_grown_none hk)) h2)) ?_
      refine wl_p (fun _ => o_andU rfl rfl) ?_
      refine wl_p (fun _ => o_xorU rfl rfl) ?_
      refine wl_p (fun _ => (o_iaddrP (1) Try.underlying28 Try.sizeOf25 rfl rfl (by omega) (by omega))) ?_
      refine wl_s (fun _ hk => (o_ldU Try.isAgg25 rfl (f11.u (below_of_grown_none hk)) h1)) ?_
      refine wl_p (fun _ => (o_iaddrP (2) Try.underlying28 Try.sizeOf25 rfl rfl (by omega) (by omega))) ?_
      refine wl_s (fun _ hk => (o_ldU Try.isAgg25 rfl (f11.u (below_of_grown_none hk)) h2)) ?_
      refine wl_p (fun _ => o_andU rfl rfl) ?_
      refine wl_p (fun _ => o_xorU rfl rfl) ?_
      refine wl_call rfl (C_refrot _ (by omega) (by omega)) ?_ (hq := .inr fun _ _ h => grown_of_below h.2 _)
      rintro v121 w121 ⟨rfl, b121⟩
      simp only [drew_size] at b121
      have s121 := b121.size
      simp only [drew_size] at s121
      replace hw := hw.trans (b121.mono hw.size)
      replace f4 := f4.u b121
      replace f2 := f2.u b121
      replace f := f.u b121
      replace f6 := f6.u b121
      replace f11 := f11.u b121
      refine wl_call rfl (C_refrot _ (by omega) (by omega)) ?_ (hq := .inr fun _ _ h => grown_of_below h.2 _)
      rintro v123 w123 ⟨rfl, b123⟩
      have s123 := b123.size
      replace hw := hw.trans (b123.mono hw.size)
      replace f11 := f11.u b123
      replace f6 := f6.u b123
      replace f := f.u b123
      replace f2 := f2.u b123
      replace f4 := f4.u b123
      refine wl_p (fun _ => o_xorU rfl rfl) ?_
      refine wl_call rfl (C_refrot _ (by omega) (by omega)) ?_ (hq := .inr fun _ _ h => grown_of_below h.2 _)
      rintro v126 w126 ⟨rfl, b126⟩
      have s126 := b126.size
      replace hw := hw.trans (b126.mono hw.size)
      replace f4 := f4.u b126
      replace f2 := f2.u b126
      replace f := f.u b126
      replace f6 := f6.u b126
      replace f11 := f11.u b126
      refine wl_p (fun _ => o_xorU rfl rfl) ?_
      refine wl_p (fun _ => o_addU rfl rfl) ?_
      refine wl_p (fun _ => o_assign rfl) ?_
      obtain ⟨T2, hT2⟩ : ∃ T2, (rotU sl[0] (-28) ^^^ rotU sl[0] (-34) ^^^ rotU sl[0] (-39)) + (sl[0] &&& sl[1] ^^^ sl[0] &&& sl[2] ^^^ sl[1] &&& sl[2]) = T2 := ⟨_, rfl⟩
      rw [hT2]
      refine wl_nild ?_
      refine rk_region ?_
      refine wl_p (fun _ => o_move rfl) ?_
      refine wl_p (fun _ => o_move rfl) ?_
      refine wl_p (fun _ => o_addU rfl rfl) ?_
      refine wl_p (fun _ => o_move rfl) ?_
      refine wl_p (fun _ => (o_iaddrP (1) Try.underlying28 Try.sizeOf25 rfl rfl (by omega) (by omega))) ?_
      refine wl_r (o_ldU Try.isAgg25 rfl f11 (by omega)) ?_
      refine wl_p (fun _ => (o_iaddrP (2) Try.underlying28 Try.sizeOf25 rfl rfl (by omega) (by omega))) ?_
      refine wl_r (o_ldU Try.isAgg25 rfl f11 (by omega)) ?_
      refine wl_p (fun _ => (o_iaddrP (3) Try.underlying28 Try.sizeOf25 rfl rfl (by omega) (by omega))) ?_
      refine wl_r (o_ldU Try.isAgg25 rfl f11 (by omega)) ?_
      refine wl_p (fun _ => o_move rfl) ?_
      refine wl_p (fun _ => o_addU rfl rfl) ?_
      refine wl_p (fun _ => o_move rfl) ?_
      refine wl_p (fun _ => (o_iaddrP (5) Try.underlying28 Try.sizeOf25 rfl rfl (by omega) (by omega))) ?_
      refine wl_r (o_ldU Try.isAgg25 rfl f11 (by omega)) ?_
      refine wl_p (fun _ => (o_iaddrP (6) Try.underlying28 Try.sizeOf25 rfl rfl (by omega) (by omega))) ?_
      refine wl_r (o_ldU Try.isAgg25 rfl f11 (by omega)) ?_
      refine wl_p (fun _ => (o_buildga [_, _, _, _, _, _, _, _] Try.underlying28 Try.sizeOf25 Try.zeroValue28 (by rfl) (by rfl) rfl (by rfl) (by rfl) (fun _ => by kernel_rfl))) ?_
      obtain ⟨nl, hnl⟩ : ∃ nl, [T1 + T2, sl[0], sl[1], sl[2], sl[3] + T1, sl[4], sl[5], sl[6]] = nl := ⟨_, rfl⟩
      have hn8 : nl.length = 8 := by rw [← hnl]; rfl
      have hns : stOf nl = rnds kl W (i + 1) s0 := by rw [← hnx, stOf_eq hsl, ← hnl, ← hT1, ← hT2]; rfl
      rw [show (#[Value.int .u64 ((T1 + T2).toNat : Int), Value.int .u64 (sl[0].toNat : Int), Value.int .u64 (sl[1].toNat : Int), Value.int .u64 (sl[2].toNat : Int), Value.int .u64 ((sl[3] + T1).toNat : Int), Value.int .u64 (sl[4].toNat : Int), Value.int .u64 (sl[5].toNat : Int), Value.int .u64 (sl[6].toNat : Int)] : Array Value) = (vU nl).toArray from by rw [← hnl]; rfl]
      clear hnl hT1 hT2
      refine wl_stUa Try.sizeOf28 rfl f11 rfl (by omega) (by omega) ?_
      rintro w_3 f_1 g_2 e_2
      have s_2 := g_2.size
      replace hw := hw.trans (below_of_grownBy g_2.g hw.size (by omega))
      clear f11
      replace f6 := f6.k g_2.g (ap_some (by omega))
      replace f := f.k g_2.g (ap_some (by omega))
      replace f2 := f2.k g_2.g (ap_some (by omega))
      replace f4 := f4.k g_2.g (ap_some (by omega))
      refine wl_nil ?_
      refine rk_blk ?_
      refine rk_region ?_
      refine wl_p (fun _ => o_move rfl) ?_
      refine wl_p (fun _ => o_add rfl rfl (by omega) (by omega)) ?_
      refine wl_p (fun _ => o_assign rfl) ?_
      refine wl_nil ?_
      exact rk_againf (Fr.le_of (by kernel_rfl) (by kernel_rfl) (by repeat' constructor)) ⟨i + 1, (i : Int) + 1, nl, rfl, by omega, by omega, rfl, hn8, hns, f_1, f6, f, f2, f4, by omega, hw⟩ (by omega)
    · refine rk_exit rfl ?_
      obtain rfl : i = 80 := by omega
      exact rk_tof hj (Fr.le_of (by kernel_rfl) (by kernel_rfl) (by repeat' constructor)) ⟨sl, rfl, hsl, hss.trans hR, f11, f6, f, f2, f4, hsz7, hw⟩
  clear hw f_1 f6 f f2 f4
  rintro fr w7 ⟨sl, rfl, hsl, hss, f11, f6, f, f2, f4, hsz7, hw⟩
  have shw7 := hw.size
  have hRs : R.list = sl := by rw [← hss]; exact list_stOf hsl
  have hrz : r = List.zipWith (· + ·) sl l := by
    rw [hrr, hRs]; exact zip_comm _ _
  first | refine rk_frame (by simp only [List.cons_append, List.nil_append, List.drop_succ_cons, List.drop_zero]; rfl) ?_ | refine wl_frame (by simp only [List.cons_append, List.nil_append, List.drop_succ_cons, List.drop_zero]; rfl) ?_
  refine rk_seq ?_
  refine rk_seq ?_
  refine rk_region ?_
  refine wl_p (fun _ => o_assign rfl) ?_
  refine wl_nil ?_
  refine rk_block ?_
  refine rk_joinf (fun fb fr w8 => fr = [] ++ fb.drop 1 ∧ Blk w8 g11 28 (vU r) ∧ Blk w8 g4 28 (vU (List.replicate 8 0)) ∧ w_2.heap.size ≤ w8.heap.size ∧ Below w.heap.size w w8) ?_ (fun ks hj => ?_)
  rotate_left
  · refine rk_loopf (fun fb m fr w8 => ∃ (i : Nat) (v : Int) (q : List UInt64), fr = [(17, .int .i64 v)] ++ fb.drop 1 ∧ v = i ∧ i ≤ 8 ∧ m = 8 - i ∧ q = (List.zipWith (· + ·) sl l).take i ++ sl.drop i ∧ Blk w8 g11 28 (vU q) ∧ Blk w8 g2 28 (vU l) ∧ Blk w8 g4 28 (vU (List.replicate 8 0)) ∧ w_2.heap.size ≤ w8.heap.size ∧ Below w.heap.size w w8) (n := 8) (Fr.le_of (by kernel_rfl) (by kernel_rfl) (by repeat' constructor)) ⟨0, _, _, rfl, rfl, by omega, rfl, rfl, f11, f2, f4, by omega, hw⟩ ?_
    clear hw f11 f6 f f2 f4
    rintro m fr w8 ⟨i, v, q, rfl, rfl, hi, rfl, hq, f11, f2, f4, hsz8, hw⟩
    have shw8 := hw.size
    have hql : q.length = 8 := by
      rw [hq, List.length_append, List.length_take, List.length_zipWith, List.length_drop]; omega
    first | refine rk_frame (by simp only [List.cons_append, List.nil_append, List.drop_succ_cons, List.drop_zero]; rfl) ?_ | refine wl_frame (by simp only [List.cons_append, List.nil_append, List.drop_succ_cons, List.drop_zero]; rfl) ?_
    refine rk_seq ?_
    refine rk_seq ?_
    refine rk_region ?_
    refine wl_p (fun _ => o_move rfl) ?_
    refine wl_p (fun _ => o_lt rfl rfl) ?_
    refine wl_nil ?_
    refine rk_if rfl (fun h163 => ?_) (fun h163 => ?_)
    · have hil : i < l.length := by omega
      refine rk_skip ?_
      refine rk_seq ?_
      refine rk_block ?_
      refine rk_draw (id := 24) (none) [0, 0, 2, 4, 0, 16, 32, 72, 255, 511] [0, 0, 2, 6, 0, 16, 48, 126, 255, 511] 512 0 [(.p, 0), (.p, 1), (.p, 2), (.r, 3), (.p, 4), (.p, 5), (.r, 6), (.p, 7), (.p, 8), (.l, 9)] (by kernel_rfl) (by kernel_rfl) (by kernel_rfl) (by kernel_rfl) (by kernel_rfl) ?_
      replace hw := hw.drew
      replace f4 := f4.d
      replace f2 := f2.d
      replace f11 := f11.d
      refine wl_p (fun _ => o_move rfl) ?_
      refine wl_p (fun _ => o_move rfl) ?_
      refine wl_p (fun _ => (o_iaddrP (i) Try.underlying28 Try.sizeOf25 rfl rfl rfl (by omega))) ?_
      refine wl_r (o_ldU Try.isAgg25 rfl f11 (by omega)) ?_
      refine wl_p (fun _ => o_move rfl) ?_
      refine wl_p (fun _ => (o_iaddrP (i) Try.underlying28 Try.sizeOf25 rfl rfl rfl (by omega))) ?_
      refine wl_r (o_ldU Try.isAgg25 rfl f2 (by omega)) ?_
      refine wl_p (fun _ => o_addU rfl rfl) ?_
      refine wl_p (fun _ => (o_iaddrP (i) Try.underlying28 Try.sizeOf25 rfl rfl rfl (by omega))) ?_
      refine wl_stU Try.sizeOf25 rfl f11 rfl (by omega) ?_
      rintro w_3 f g_2 e_2
      simp only [drew_size] at e_2
      have s_2 := g_2.size
      simp only [drew_size] at s_2
      replace hw := hw.trans (below_of_grownBy g_2.g hw.size (by omega))
      clear f11
      replace f2 := f2.k g_2.g (ap_some (by omega))
      replace f4 := f4.k g_2.g (ap_some (by omega))
      refine wl_nild ?_
      refine rk_blk ?_
      refine rk_region ?_
      refine wl_p (fun _ => o_move rfl) ?_
      refine wl_p (fun _ => o_add rfl rfl (by omega) (by omega)) ?_
      refine wl_p (fun _ => o_assign rfl) ?_
      refine wl_nil ?_
      exact rk_againf (Fr.le_of (by kernel_rfl) (by kernel_rfl) (by repeat' constructor)) ⟨i + 1, (i : Int) + 1, _, rfl, by omega, by omega, rfl, zip_next hq (by omega) (by omega) hil, f, f2, f4, by omega, hw⟩ (by omega)
    · refine rk_exit rfl ?_
      obtain rfl : i = 8 := by omega
      rw [List.take_of_length_le (by rw [List.length_zipWith]; omega), List.drop_of_length_le (by omega), List.append_nil, ← hrz] at hq
      subst hq
      exact rk_tof hj (Fr.le_of (by kernel_rfl) (by kernel_rfl) (by repeat' constructor)) ⟨rfl, f11, f4, hsz8, hw⟩
  clear hw f11 f6 f f2 f4
  rintro fr w8 ⟨rfl, f11, f4, hsz8, hw⟩
  have shw8 := hw.size
  first | refine rk_frame (by simp only [List.cons_append, List.nil_append, List.drop_succ_cons, List.drop_zero]; rfl) ?_ | refine wl_frame (by simp only [List.cons_append, List.nil_append, List.drop_succ_cons, List.drop_zero]; rfl) ?_
  refine rk_seq ?_
  refine rk_region ?_
  refine wl_r (o_ldUa Try.isAgg28 Try.sizeOf28 rfl f11 (by omega)) ?_
  refine wl_stUa Try.sizeOf28 rfl f4 rfl (by omega) (by rfl) ?_
  rintro w_3 f g_2 e_2
  have s_2 := g_2.size
  replace hw := hw.trans (below_of_grownBy g_2.g hw.size (by omega))
  clear f4
  replace f11 := f11.k g_2.g (ap_some (by omega))
  refine wl_nil ?_
  refine ret_cell rfl rfl Try.isAgg28 Try.sizeOf28 f (by rw [vU_length, hr8]) ?_
  exact ⟨rfl, hw⟩
end Go.Proofs.Ytldhmnakkkjenaa
