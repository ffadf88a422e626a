/-
  Walks of the reference for sums: all pieces, bytes, what is joined, sums.
-/
import Derived.Test.YtldhmnakkkjenaaShO
namespace Go.Proofs.Ytldhmnakkkjenaa
open Go.RowKit
theorem C_refbytes {l : List UInt64} {r : List UInt8} (w : World) (hr : bytesU l = r) (hl : l.length = 8) :
    CallsR Try.prog 37 [.agg (vU l).toArray] w fun v w' => v = .agg (B8 r).toArray ∧ Below w.heap.size w w' := by
  have hr64 : r.length = 64 := by rw [← hr, bytesU_len]
  refine callsR Try.func37 rfl rfl (by kernel_rfl) rfl ?_
  have hw := Below.refl w.heap.size w
  refine rk_seq ?_
  refine rk_region ?_
  refine wl_boxg _ rfl (by rfl) ?_
  rintro g1 w1 f1 b1 i1 i1_1
  have s1 := b1.size
  replace hw := hw.trans (b1.mono hw.size)
  refine wl_allocB Try.underlying37 Try.zeroValue37 (by rfl) ?_
  rintro g2 w2 f2 b2 i2 i2_1
  have s2 := b2.size
  replace hw := hw.trans (b2.mono hw.size)
  replace f1 := f1.u b2
  refine wl_nil ?_
  refine rk_seq ?_
  refine rk_region ?_
  refine wl_allocB Try.underlying37 Try.zeroValue37 (by rfl) ?_
  rintro g3 w3 f3 b3 i3 i3_1
  have s3 := b3.size
  replace hw := hw.trans (b3.mono hw.size)
  replace f1 := f1.u b3
  replace f2 := f2.u b3
  refine wl_nil ?_
  refine rk_seq ?_
  refine rk_seq ?_
  refine rk_region ?_
  refine wl_p (fun _ => o_assign rfl) ?_
  refine wl_nil ?_
  refine rk_block ?_
  refine rk_joinf (fun fb fr w6 => fr = [] ++ fb.drop 1 ∧ Blk w6 g3 37 (B8 r) ∧ Blk w6 g2 37 (B8 (List.replicate 64 0)) ∧ w3.heap.size ≤ w6.heap.size ∧ Below w.heap.size w w6) ?_ (fun ks hj => ?_)
  rotate_left
  · refine rk_loopf (fun fb m fr w6 => ∃ (i : Nat) (v : Int) (q : List UInt8), fr = [(4, .int .i64 v)] ++ fb.drop 1 ∧ v = i ∧ i ≤ 64 ∧ m = 64 - i ∧ q = (bytesU l).take i ++ List.replicate (64 - i) 0 ∧ Blk w6 g3 37 (B8 q) ∧ Blk w6 g1 28 (vU l) ∧ Blk w6 g2 37 (B8 (List.replicate 64 0)) ∧ w3.heap.size ≤ w6.heap.size ∧ Below w.heap.size w w6) (n := 64) (Fr.le_of (by kernel_rfl) (by kernel_rfl) (by repeat' constructor)) ⟨0, _, _, rfl, rfl, by omega, rfl, rfl, f3, f1, f2, Nat.le_refl _, hw⟩ ?_
    clear hw f2 f1 f3
    rintro m fr w6 ⟨i, v, q, rfl, rfl, hi, rfl, hq, f3, f1, f2, hsz, hw⟩
    have shw := hw.size
    have hql : q.length = 64 := by
      rw [hq, List.length_append, List.length_take, bytesU_len, List.length_replicate]; omega
    first | refine rk_frame (by simp only [List.cons_append, List.nil_append, List.drop_succ_cons, List.drop_zero]; rfl) ?_ | refine wl_frame (by simp only [List.cons_append, List.nil_append, List.drop_succ_cons, List.drop_zero]; rfl) ?_
    refine rk_seq ?_
    refine rk_seq ?_
    refine rk_region ?_
    refine wl_p (fun _ => o_move rfl) ?_
    refine wl_p (fun _ => o_lt rfl rfl) ?_
    refine wl_nil ?_
    refine rk_if rfl (fun h6 => ?_) (fun h6 => ?_)
    · refine rk_skip ?_
      refine rk_seq ?_
      refine rk_block ?_
      refine rk_region ?_
      refine wl_p (fun _ => o_move rfl) ?_
      refine wl_p (fun _ => o_move rfl) ?_
      refine wl_p (fun _ => o_quo rfl rfl (by omega) (by omega) (by omega)) ?_
      refine wl_p (fun _ => (o_iaddrP (i / 8) Try.underlying28 Try.sizeOf25 rfl rfl (by omega) (by omega))) ?_
      refine wl_r (o_ldU Try.isAgg25 rfl f1 (by omega)) ?_
      refine wl_p (fun _ => o_move rfl) ?_
      refine wl_p (fun _ => o_rem rfl rfl (by omega) (by omega)) ?_
      refine wl_p (fun _ => o_mul rfl rfl (by omega) (by omega)) ?_
      refine wl_p (fun _ => o_sub rfl rfl (by omega) (by omega)) ?_
      refine wl_p (fun _ => o_convu64 (src := 3) (dst := 35) Try.underlying3 Try.underlying35 rfl (by omega) (by omega)) ?_
      refine wl_p (fun _ => o_shrU rfl rfl (by omega) (by omega)) ?_
      refine wl_p (fun _ => o_convU8 (src := 25) (dst := 5) Try.underlying25 Try.underlying5 rfl) ?_
      refine wl_p (fun _ => (o_iaddrP (i) Try.underlying37 Try.sizeOf5 rfl rfl rfl (by omega))) ?_
      refine wl_stB Try.sizeOf5 rfl f3 rfl (by omega) ?_
      rintro w_1 f g e
      have s := g.size
      replace hw := hw.trans (below_of_grownBy g.g hw.size (by omega))
      replace f2 := f2.k g.g (ap_some (by omega))
      replace f1 := f1.k g.g (ap_some (by omega))
      clear f3
      refine wl_nil ?_
      refine rk_blk ?_
      refine rk_region ?_
      refine wl_p (fun _ => o_move rfl) ?_
      refine wl_p (fun _ => o_add rfl rfl (by omega) (by omega)) ?_
      refine wl_p (fun _ => o_assign rfl) ?_
      refine wl_nil ?_
      rw [show (56 - 8 * ((i : Int) % 8)).toNat = 56 - 8 * (i % 8) by omega] at f
      exact rk_againf (Fr.le_of (by kernel_rfl) (by kernel_rfl) (by repeat' constructor)) ⟨i + 1, (i : Int) + 1, _, rfl, by omega, by omega, rfl, bytes_next (by omega) hq (by omega), f, f1, f2, by omega, hw⟩ (by omega)
    · refine rk_exit rfl ?_
      obtain rfl : i = 64 := by omega
      rw [List.take_of_length_le (by rw [bytesU_len]; omega), Nat.sub_self, List.replicate_zero, List.append_nil, hr] at hq
      subst hq
      exact rk_tof hj (Fr.le_of (by kernel_rfl) (by kernel_rfl) (by repeat' constructor)) ⟨rfl, f3, f2, hsz, hw⟩
  clear hw f2 f1 f3
  rintro fr w6 ⟨rfl, f3, f2, hsz, hw⟩
  have shw := hw.size
  first | refine rk_frame (by simp only [List.cons_append, List.nil_append, List.drop_succ_cons, List.drop_zero]; rfl) ?_ | refine wl_frame (by simp only [List.cons_append, List.nil_append, List.drop_succ_cons, List.drop_zero]; rfl) ?_
  refine rk_seq ?_
  refine rk_region ?_
  refine wl_r (o_ldBa Try.isAgg37 Try.sizeOf37 rfl f3 (by omega)) ?_
  refine wl_stBa Try.sizeOf37 rfl f2 rfl (by omega) (by rfl) ?_
  rintro w_1 f g e
  have s := g.size
  replace hw := hw.trans (below_of_grownBy g.g hw.size (by omega))
  clear f2
  replace f3 := f3.k g.g (ap_some (by omega))
  refine wl_nil ?_
  refine ret_cell rfl rfl Try.isAgg37 Try.sizeOf37 f (by rw [B8_length, hr64]) ?_
  exact ⟨rfl, hw⟩
theorem C_refjoin {A : Option Addr} {L : List By} {r : By} {n c : Nat} (w : World) (hK : RKy w A L) (hr : L.flatten = r) (hn : n = L.length) (hl : L.length ≤ 40) (hl2 : ∀ x ∈ L, x.length ≤ 4000) :
    CallsR Try.prog 39 [.slice A n c] w fun v w' => ∃ A' c', v = .slice A' r.length c' ∧ OwnH w' w.heap.size w'.heap.size A' c' r ∧ Below w.heap.size w w' := by
  subst hn
  have hrl : r.length ≤ 160000 := by
    have := flatten_le L 4000 hl2; rw [hr] at this; omega
  refine callsR Try.func39 rfl rfl (by kernel_rfl) rfl ?_
  have hw := Below.refl w.heap.size w
  refine rk_seq ?_
  refine rk_region ?_
  refine wl_p (fun _ => o_assign rfl) ?_
  refine wl_nil ?_
  refine rk_seq ?_
  refine rk_region ?_
  refine wl_p (fun _ => o_assign rfl) ?_
  refine wl_nil ?_
  refine rk_seq ?_
  refine rk_seq ?_
  refine rk_region ?_
  refine wl_p (fun _ => o_assign rfl) ?_
  refine wl_nil ?_
  refine rk_block ?_
  refine rk_joinf (fun fb fr w3 => ∃ A' c', fr = [(3, .slice A' r.length c')] ++ fb.drop 2 ∧ OwnH w3 w.heap.size w3.heap.size A' c' r ∧ Below w.heap.size w w3) ?_ (fun ks hj => ?_)
  rotate_left
  · refine rk_loopf (fun fb m fr w3 => ∃ (i : Nat) (v : Int) (A' : Option Addr) (bs : By) (c' : Nat), fr = [(4, .int .i64 v), (3, .slice A' bs.length c')] ++ fb.drop 2 ∧ v = i ∧ i ≤ L.length ∧ m = L.length - i ∧ bs = (L.take i).flatten ∧ OwnH w3 w.heap.size w3.heap.size A' c' bs ∧ Below w.heap.size w w3) (n := L.length) (Fr.le_of (by kernel_rfl) (by kernel_rfl) (by repeat' constructor)) ⟨0, _, none, [], 0, rfl, rfl, by omega, rfl, rfl, OwnH.nil_, hw⟩ ?_
    clear hw
    rintro m fr w3 ⟨i, v, A', bs, c', rfl, rfl, hi, rfl, hbs, fo, hw⟩
    have shw := hw.size
    have h1 := flatten_take_le L i
    rw [hr, ← hbs] at h1
    first | refine rk_frame (by simp only [List.cons_append, List.nil_append, List.drop_succ_cons, List.drop_zero]; rfl) ?_ | refine wl_frame (by simp only [List.cons_append, List.nil_append, List.drop_succ_cons, List.drop_zero]; rfl) ?_
    refine rk_seq ?_
    refine rk_seq ?_
    refine rk_region ?_
    refine wl_p (fun _ => o_move rfl) ?_
    refine wl_p (fun _ => o_move rfl) ?_
    refine wl_p (fun _ => o_len (t := 50) Try.underlying50 rfl) ?_
    refine wl_p (fun _ => o_lt rfl rfl) ?_
    refine wl_nil ?_
    refine rk_if rfl (fun h8 => ?_) (fun h8 => ?_)
    · have hil : i < L.length := by omega
      have h2 := hl2 _ (List.getElem_mem hil)
      refine rk_skip ?_
      refine rk_seq ?_
      refine rk_block ?_
      refine rk_region ?_
      refine wl_p (fun _ => o_move rfl) ?_
      refine wl_p (fun _ => o_move rfl) ?_
      refine wl_p (fun _ => o_move rfl) ?_
      refine wl_p (fun _ => (o_iaddrA1 (i) Try.underlying50 Try.sizeOf39 rfl rfl rfl (hK.some_ (by omega)) (by omega))) ?_
      refine wl_ldKy rfl hK hw (by omega) ?_
      rintro A115 c115 f15 i15
      refine wl_appB Try.u8 rfl fo rfl rfl (f15.u hw) rfl (by omega) hw.size ?_
      rintro A16 c16 w16 f16 g16 b16 i16
      have qf16 := f16.cap
      have s16 := g16.size
      replace hw := hw.trans (b16.mono (by omega))
      clear fo
      refine wl_p (fun _ => o_assign rfl) ?_
      refine wl_nil ?_
      refine rk_blk ?_
      refine rk_region ?_
      refine wl_p (fun _ => o_move rfl) ?_
      refine wl_p (fun _ => o_add rfl rfl (by omega) (by omega)) ?_
      refine wl_p (fun _ => o_assign rfl) ?_
      refine wl_nil ?_
      exact rk_againf (Fr.le_of (by kernel_rfl) (by kernel_rfl) (by repeat' constructor)) ⟨i + 1, (i : Int) + 1, _, _, _, rfl, by omega, by omega, rfl, by rw [flatten_take L i hil, hbs], f16, hw⟩ (by omega)
    · refine rk_exit rfl ?_
      obtain rfl : i = L.length := by omega
      rw [List.take_length, hr] at hbs
      subst hbs
      exact rk_tof hj (Fr.le_of (by kernel_rfl) (by kernel_rfl) (by repeat' constructor)) ⟨A', c', rfl, fo, hw⟩
  clear hw
  rintro fr w3 ⟨A', c', rfl, fo, hw⟩
  have shw := hw.size
  first | refine rk_frame (by simp only [List.cons_append, List.nil_append, List.drop_succ_cons, List.drop_zero]; rfl) ?_ | refine wl_frame (by simp only [List.cons_append, List.nil_append, List.drop_succ_cons, List.drop_zero]; rfl) ?_
  refine rk_seq ?_
  refine rk_region ?_
  refine wl_p (fun _ => o_move rfl) ?_
  refine wl_p (fun _ => o_assign rfl) ?_
  refine wl_nil ?_
  refine ret1 rfl rfl ?_
  exact ⟨A', c', rfl, fo, hw⟩
theorem C_refPiece {l : List UInt64} {p : By} {r : List UInt64} (w : World) (hr : pieceU l p = r) (hl : l.length = 8) (hp : p.length = 128) :
    CallsR Try.prog 27 [.agg (vU l).toArray, .agg (B8 p).toArray] w fun v w' => v = .agg (vU r).toArray ∧ Below w.heap.size w w' := by
  have hr8 : r.length = 8 := by rw [← hr]; exact pieceU_len p hl
  refine callsR Try.func27 rfl rfl (by kernel_rfl) rfl ?_
  have hw := Below.refl w.heap.size w
  refine rk_seq ?_
  refine rk_region ?_
  refine wl_boxg _ rfl (by rfl) ?_
  rintro g2 w2 f2 b2 i2 i2_1
  have s2 := b2.size
  replace hw := hw.trans (b2.mono hw.size)
  refine wl_boxg _ rfl (by rfl) ?_
  rintro g3 w3 f3 b3 i3 i3_1
  have s3 := b3.size
  replace hw := hw.trans (b3.mono hw.size)
  replace f2 := f2.u b3
  refine wl_allocU Try.underlying28 Try.zeroValue28 (by rfl) ?_
  rintro g4 w4 f4 b4 i4 i4_1
  have s4 := b4.size
  replace hw := hw.trans (b4.mono hw.size)
  replace f2 := f2.u b4
  replace f3 := f3.u b4
  refine wl_nil ?_
  refine rk_seq ?_
  refine rk_draw (id := 1) (none) [0, 0, 3, 7] [0, 0, 3, 7] 12 0 [(.r, 0), (.p, 1), (.l, 2), (.l, 3)] (by kernel_rfl) (by kernel_rfl) (by kernel_rfl) (by kernel_rfl) (by kernel_rfl) ?_
  replace hw := hw.drew
  replace f3 := f3.d
  replace f2 := f2.d
  replace f4 := f4.d
  refine wl_r (o_ldUa Try.isAgg28 Try.sizeOf28 rfl f2 (by omega)) ?_
  refine wl_p (fun _ => o_slice_arr (t := 41) Try.underlying41 Try.sizeOf5 rfl) ?_
  have fp := rd_pre f3 128
  rw [List.take_of_length_le (by omega)] at fp
  refine wl_call rfl (C_refpiece _ fp hr (by omega) (by omega) (by omega)) ?_
  rintro v7 w7 ⟨rfl, b7⟩
  simp only [drew_size] at b7
  have s7 := b7.size
  simp only [drew_size] at s7
  replace hw := hw.trans (b7.mono hw.size)
  replace fp := fp.u b7
  replace f4 := f4.u b7
  replace f2 := f2.u b7
  replace f3 := f3.u b7
  refine wl_stUa Try.sizeOf28 rfl f4 rfl (by omega) (by rfl) ?_
  rintro w_1 f g e
  have s := g.size
  replace hw := hw.trans (below_of_grownBy g.g hw.size (by omega))
  replace f3 := f3.k g.g (ap_some (by omega))
  replace f2 := f2.k g.g (ap_some (by omega))
  clear f4
  clear fp
  refine wl_nild ?_
  refine ret_cell rfl rfl Try.isAgg28 Try.sizeOf28 f (by rw [vU_length, hr8]) ?_
  exact ⟨rfl, hw⟩
theorem C_refrun {l : List UInt64} {A : Option Addr} {b : By} {r : List UInt64} {n c : Nat} (w : World) (hp : Rd w A b) (hr : runU l (padU b) = r) (hl : l.length = 8) (hn : n = b.length) (hbl : b.length ≤ 200000) :
    CallsR Try.prog 38 [.agg (vU l).toArray, .slice A n c] w fun v w' => v = .agg (vU r).toArray ∧ Below w.heap.size w w' := by
  subst hn
  have hr8 : r.length = 8 := by rw [← hr]; exact runU_len _ hl
  obtain ⟨M, hM⟩ := padU_mul b
  obtain ⟨p, hpe⟩ : ∃ p, padU b = p := ⟨_, rfl⟩
  have hpl2 : p.length ≤ 300000 := by rw [← hpe, padU_len]; have := zeros_lt b.length; omega
  rw [hpe] at hM hr
  have hr2 : (List.range M).foldl (fun s i => pieceU s (chunkB p i)) l = r := by
    rw [← hr]; unfold runU; rw [hM, Nat.mul_div_cancel_left _ (by decide)]
  refine callsR Try.func38 rfl rfl (by kernel_rfl) rfl ?_
  have hw := Below.refl w.heap.size w
  refine rk_seq ?_
  refine rk_region ?_
  refine wl_boxg _ rfl (by rfl) ?_
  rintro g2 w2 f2 b2 i2 i2_1
  have s2 := b2.size
  replace hw := hw.trans (b2.mono hw.size)
  refine wl_allocU Try.underlying28 Try.zeroValue28 (by rfl) ?_
  rintro g4 w4 f4 b4 i4 i4_1
  have s4 := b4.size
  replace hw := hw.trans (b4.mono hw.size)
  replace f2 := f2.u b4
  refine wl_nil ?_
  refine rk_seq ?_
  refine rk_region ?_
  refine wl_p (fun _ => o_move rfl) ?_
  refine wl_call rfl (C_refPad _ (hp.u hw) hpe rfl (by omega)) ?_
  rintro v8 w8 ⟨A8, ⟨c8, ⟨rfl, ⟨f8, b8⟩⟩⟩⟩
  have qf8 := f8.cap
  have s8 := b8.size
  replace hw := hw.trans (b8.mono hw.size)
  replace f2 := f2.u b8
  replace f4 := f4.u b8
  refine wl_p (fun _ => o_assign rfl) ?_
  refine wl_nil ?_
  refine rk_seq ?_
  refine rk_seq ?_
  refine rk_region ?_
  refine wl_p (fun _ => o_assign rfl) ?_
  refine wl_nil ?_
  refine rk_block ?_
  refine rk_joinf (fun fb fr w3 => fr = [] ++ fb.drop 1 ∧ Blk w3 g2 28 (vU r) ∧ Blk w3 g4 28 (vU (List.replicate 8 0)) ∧ w8.heap.size ≤ w3.heap.size ∧ Below w.heap.size w w3) ?_ (fun ks hj => ?_)
  rotate_left
  · refine rk_loopf (fun fb m fr w3 => ∃ (k j : Nat) (v : Int) (q : List UInt64), fr = [(6, .int .i64 v)] ++ fb.drop 1 ∧ v = j ∧ j = 128 * k ∧ k ≤ M ∧ m = M - k ∧ q.length = 8 ∧ q = (List.range k).foldl (fun s i => pieceU s (chunkB p i)) l ∧ Blk w3 g2 28 (vU q) ∧ Blk w3 g4 28 (vU (List.replicate 8 0)) ∧ OwnH w3 w4.heap.size w8.heap.size A8 c8 p ∧ w8.heap.size ≤ w3.heap.size ∧ Below w.heap.size w w3) (n := M) (Fr.le_of (by kernel_rfl) (by kernel_rfl) (by repeat' constructor)) ⟨0, 0, _, l, rfl, rfl, rfl, by omega, rfl, hl, rfl, f2, f4, f8, Nat.le_refl _, hw⟩ ?_
    clear hw f2 f4 f8
    rintro m fr w3 ⟨k, j, v, q, rfl, rfl, hj, hk, rfl, hql, hq, f2, f4, f8, hsz, hw⟩
    have shw := hw.size
    first | refine rk_frame (by simp only [List.cons_append, List.nil_append, List.drop_succ_cons, List.drop_zero]; rfl) ?_ | refine wl_frame (by simp only [List.cons_append, List.nil_append, List.drop_succ_cons, List.drop_zero]; rfl) ?_
    refine rk_seq ?_
    refine rk_seq ?_
    refine rk_region ?_
    refine wl_p (fun _ => o_move rfl) ?_
    refine wl_p (fun _ => o_move rfl) ?_
    refine wl_p (fun _ => o_len (t := 39) Try.underlying39 rfl) ?_
    refine wl_p (fun _ => o_lt rfl rfl) ?_
    refine wl_nil ?_
    refine rk_if rfl (fun h12 => ?_) (fun h12 => ?_)
    · obtain ⟨r1, h1⟩ : ∃ r1, pieceU q ((p.drop j).take (j + 128 - j)) = r1 := ⟨_, rfl⟩
      have hr18 : r1.length = 8 := by rw [← h1]; exact pieceU_len _ hql
      have hc128 : ((p.drop j).take (j + 128 - j)).length = 128 := by rw [List.length_take, List.length_drop]; omega
      refine rk_skip ?_
      refine rk_seq ?_
      refine rk_block ?_
      refine rk_draw (id := 5) (none) [0, 0, 0, 0, 8, 22, 33, 127] [0, 0, 0, 0, 8, 30, 63, 127] 192 0 [(.r, 0), (.p, 1), (.p, 2), (.p, 3), (.p, 4), (.p, 5), (.l, 6), (.l, 7)] (by kernel_rfl) (by kernel_rfl) (by kernel_rfl) (by kernel_rfl) (by kernel_rfl) ?_
      replace hw := hw.drew
      replace f8 := f8.d
      replace f4 := f4.d
      replace f2 := f2.d
      refine wl_r (o_ldUa Try.isAgg28 Try.sizeOf28 rfl f2 (by omega)) ?_
      refine wl_p (fun _ => o_move rfl) ?_
      refine wl_p (fun _ => o_move rfl) ?_
      refine wl_p (fun _ => o_move rfl) ?_
      refine wl_p (fun _ => o_add rfl rfl (by omega) (by omega)) ?_
      refine wl_slBB Try.u8 (j) (j + 128) rfl rfl rfl f8.to_Rd rfl rfl (by omega) (by omega) (by omega) (by omega) ?_
      rintro A20 c20 f20 i20 i20_1
      refine wl_call rfl (C_refpiece _ f20 h1 (by omega) (by omega) (by omega)) ?_
      rintro v21 w21 ⟨rfl, b21⟩
      simp only [drew_size] at b21
      have s21 := b21.size
      simp only [drew_size] at s21
      replace hw := hw.trans (b21.mono hw.size)
      replace f20 := f20.u b21
      replace f2 := f2.u b21
      replace f4 := f4.u b21
      replace f8 := f8.u b21
      refine wl_stUa Try.sizeOf28 rfl f2 rfl (by omega) (by omega) ?_
      rintro w_1 f g e
      have s := g.size
      replace hw := hw.trans (below_of_grownBy g.g hw.size (by omega))
      replace f8 := f8.k g.g (ap_some (by omega))
      replace f4 := f4.k g.g (ap_some (by omega))
      clear f2
      clear f20
      refine wl_nild ?_
      refine rk_blk ?_
      refine rk_region ?_
      refine wl_p (fun _ => o_move rfl) ?_
      refine wl_p (fun _ => o_add rfl rfl (by omega) (by omega)) ?_
      refine wl_p (fun _ => o_assign rfl) ?_
      refine wl_nil ?_
      exact rk_againf (Fr.le_of (by kernel_rfl) (by kernel_rfl) (by repeat' constructor)) ⟨k + 1, j + 128, (j : Int) + 128, r1, rfl, by omega, by omega, by omega, rfl, hr18, by
        rw [List.range_succ, List.foldl_append, ← hq, ← h1, hj, show 128 * k + 128 - 128 * k = 128 by omega]; rfl, f, f4, f8, by omega, hw⟩ (by omega)
    · refine rk_exit rfl ?_
      obtain rfl : k = M := by omega
      rw [hr2] at hq
      subst hq
      exact rk_tof hj (Fr.le_of (by kernel_rfl) (by kernel_rfl) (by repeat' constructor)) ⟨rfl, f2, f4, hsz, hw⟩
  clear hw f2 f4 f8
  rintro fr w3 ⟨rfl, f2, f4, hsz, hw⟩
  have shw := hw.size
  first | refine rk_frame (by simp only [List.cons_append, List.nil_append, List.drop_succ_cons, List.drop_zero]; rfl) ?_ | refine wl_frame (by simp only [List.cons_append, List.nil_append, List.drop_succ_cons, List.drop_zero]; rfl) ?_
  refine rk_seq ?_
  refine rk_region ?_
  refine wl_r (o_ldUa Try.isAgg28 Try.sizeOf28 rfl f2 (by omega)) ?_
  refine wl_stUa Try.sizeOf28 rfl f4 rfl (by omega) (by rfl) ?_
  rintro w_1 f g e
  have s := g.size
  replace hw := hw.trans (below_of_grownBy g.g hw.size (by omega))
  clear f4
  replace f2 := f2.k g.g (ap_some (by omega))
  refine wl_nil ?_
  refine ret_cell rfl rfl Try.isAgg28 Try.sizeOf28 f (by rw [vU_length, hr8]) ?_
  exact ⟨rfl, hw⟩
set_option maxHeartbeats 1000000 in
set_option maxRecDepth 100000 in
theorem C_refStartShort {r : List UInt64} (w : World) (hr : Ul = r) :
    CallsR Try.prog 31 [] w fun v w' => v = .agg (vU r).toArray ∧ Below w.heap.size w w' := by
  have hr8 : r.length = 8 := by rw [← hr]; exact Ul_len
  have hr2 : runU Tl (padU nameB) = r := by rw [← hr]; rfl
  have hS8 : Sl.length = 8 := Sl_len
  obtain ⟨tl, htl⟩ : ∃ tl, Tl = tl := ⟨_, rfl⟩
  obtain ⟨sl, hsl⟩ : ∃ sl, Sl = sl := ⟨_, rfl⟩
  have hts : sl.map (· ^^^ 11936128518282651045) = tl := by rw [← htl, ← hsl]; rfl
  have ht8 : tl.length = 8 := by rw [← htl]; rfl
  rw [htl] at hr2
  rw [hsl] at hS8
  refine callsR Try.func31 rfl rfl (by kernel_rfl) rfl ?_
  have hw := Below.refl w.heap.size w
  refine rk_seq ?_
  refine rk_region ?_
  refine wl_allocU Try.underlying28 Try.zeroValue28 (by rfl) ?_
  rintro g0 w0 f0 b0 i0 i0_1
  have s0 := b0.size
  replace hw := hw.trans (b0.mono hw.size)
  refine wl_nil ?_
  refine rk_seq ?_
  refine rk_region ?_
  refine wl_call rfl (C_refStart _) ?_
  rintro v3 w3 ⟨rfl, b3⟩
  have s3 := b3.size
  replace hw := hw.trans (b3.mono hw.size)
  replace f0 := f0.u b3
  refine wl_allocU Try.underlying28 Try.zeroValue28 (by rfl) ?_
  rintro g1 w1 f1 b1 i1 i1_1
  have s1 := b1.size
  replace hw := hw.trans (b1.mono hw.size)
  replace f0 := f0.u b1
  refine wl_stUa Try.sizeOf28 rfl f1 rfl (by rfl) (by rfl) ?_
  rintro w_1 f g e
  have s := g.size
  replace hw := hw.trans (below_of_grownBy g.g hw.size (by omega))
  replace f0 := f0.k g.g (ap_some (by omega))
  clear f1
  refine wl_nil ?_
  refine rk_seq ?_
  refine rk_seq ?_
  refine rk_region ?_
  refine wl_p (fun _ => o_assign rfl) ?_
  refine wl_nil ?_
  refine rk_block ?_
  rw [hsl] at f
  refine rk_joinf (fun fb fr w2 => fr = [] ++ fb.drop 1 ∧ Blk w2 g1 28 (vU tl) ∧ Blk w2 g0 28 (vU (List.replicate 8 0)) ∧ w_1.heap.size ≤ w2.heap.size ∧ Below w.heap.size w w2) ?_ (fun ks hj => ?_)
  rotate_left
  · refine rk_loopf (fun fb m fr w2 => ∃ (i : Nat) (v : Int) (q : List UInt64), fr = [(2, .int .i64 v)] ++ fb.drop 1 ∧ v = i ∧ i ≤ 8 ∧ m = 8 - i ∧ q = (sl.map (· ^^^ 11936128518282651045)).take i ++ sl.drop i ∧ Blk w2 g1 28 (vU q) ∧ Blk w2 g0 28 (vU (List.replicate 8 0)) ∧ w_1.heap.size ≤ w2.heap.size ∧ Below w.heap.size w w2) (n := 8) (Fr.le_of (by kernel_rfl) (by kernel_rfl) (by repeat' constructor)) ⟨0, _, _, rfl, rfl, by omega, rfl, rfl, f, f0, Nat.le_refl _, hw⟩ ?_
    clear hw f f0
    rintro m fr w2 ⟨i, v, q, rfl, rfl, hi, rfl, hq, f, f0, hsz, hw⟩
    have shw := hw.size
    have hql : q.length = 8 := by
      rw [hq, List.length_append, List.length_take, List.length_map, List.length_drop]; omega
    first | refine rk_frame (by simp only [List.cons_append, List.nil_append, List.drop_succ_cons, List.drop_zero]; rfl) ?_ | refine wl_frame (by simp only [List.cons_append, List.nil_append, List.drop_succ_cons, List.drop_zero]; rfl) ?_
    refine rk_seq ?_
    refine rk_seq ?_
    refine rk_region ?_
    refine wl_p (fun _ => o_move rfl) ?_
    refine wl_p (fun _ => o_lt rfl rfl) ?_
    refine wl_nil ?_
    refine rk_if rfl (fun h5 => ?_) (fun h5 => ?_)
    · have hil : i < q.length := by omega
      have e1 : bits .xor .u64 (q[i].toNat : Int) 11936128518282651045 = ((q[i] ^^^ 11936128518282651045).toNat : Int) := by
        rw [UInt64.toNat_xor]; exact bits_xor_u64_nat q[i].toNat 11936128518282651045 (u64_lt _) (by decide)
      refine rk_skip ?_
      refine rk_seq ?_
      refine rk_block ?_
      refine rk_region ?_
      refine wl_p (fun _ => o_move rfl) ?_
      refine wl_p (fun _ => o_move rfl) ?_
      refine wl_p (fun _ => (o_iaddrP (i) Try.underlying28 Try.sizeOf25 rfl rfl rfl (by omega))) ?_
      refine wl_r (o_ldU Try.isAgg25 rfl f (by omega)) ?_
      refine wl_p (fun _ => o_xor rfl rfl) ?_
      refine wl_p (fun _ => (o_iaddrP (i) Try.underlying28 Try.sizeOf25 rfl rfl rfl (by omega))) ?_
      rw [e1]
      refine wl_stU Try.sizeOf25 rfl f rfl (by omega) ?_
      rintro w_2 f_1 g_1 e_1
      have s_1 := g_1.size
      replace hw := hw.trans (below_of_grownBy g_1.g hw.size (by omega))
      replace f0 := f0.k g_1.g (ap_some (by omega))
      clear f
      refine wl_nil ?_
      refine rk_blk ?_
      refine rk_region ?_
      refine wl_p (fun _ => o_move rfl) ?_
      refine wl_p (fun _ => o_add rfl rfl (by omega) (by omega)) ?_
      refine wl_p (fun _ => o_assign rfl) ?_
      refine wl_nil ?_
      exact rk_againf (Fr.le_of (by kernel_rfl) (by kernel_rfl) (by repeat' constructor)) ⟨i + 1, (i : Int) + 1, _, rfl, by omega, by omega, rfl, map_next (f := (· ^^^ 11936128518282651045)) hq hil (by omega), f_1, f0, by omega, hw⟩ (by omega)
    · refine rk_exit rfl ?_
      obtain rfl : i = 8 := by omega
      rw [List.take_of_length_le (by rw [List.length_map]; omega), List.drop_of_length_le (by omega), List.append_nil, hts] at hq
      subst hq
      exact rk_tof hj (Fr.le_of (by kernel_rfl) (by kernel_rfl) (by repeat' constructor)) ⟨rfl, f, f0, hsz, hw⟩
  clear hw f f0
  rintro fr w2 ⟨rfl, f, f0, hsz, hw⟩
  have shw := hw.size
  have hr3 : runU tl (padU [83, 72, 65, 45, 53, 49, 50, 47, 50, 53, 54]) = r := hr2
  first | refine rk_frame (by simp only [List.cons_append, List.nil_append, List.drop_succ_cons, List.drop_zero]; rfl) ?_ | refine wl_frame (by simp only [List.cons_append, List.nil_append, List.drop_succ_cons, List.drop_zero]; rfl) ?_
  refine rk_seq ?_
  refine rk_region ?_
  refine wl_r (o_ldUa Try.isAgg28 Try.sizeOf28 rfl f (by omega)) ?_
  refine wl_litC [83, 72, 65, 45, 53, 49, 50, 47, 50, 53, 54] Try.u8 Try.sizeOf5 Try.zeroValue5 (by rfl) rfl rfl (by rfl) (by rfl) (by rfl) ?_
  rintro A15 w15 f15 b15
  have s15 := b15.size
  replace hw := hw.trans (b15.mono hw.size)
  replace f0 := f0.u b15
  replace f := f.u b15
  refine wl_call rfl (C_refrun _ f15.to_Rd hr3 (by omega) (by rfl) (by simp)) ?_
  rintro v17 w17 ⟨rfl, b17⟩
  have s17 := b17.size
  replace hw := hw.trans (b17.mono hw.size)
  replace f := f.u b17
  replace f0 := f0.u b17
  replace f15 := f15.u b17
  refine wl_stUa Try.sizeOf28 rfl f0 rfl (by omega) (by rfl) ?_
  rintro w_2 f_1 g_1 e_1
  have s_1 := g_1.size
  replace hw := hw.trans (below_of_grownBy g_1.g hw.size (by omega))
  replace f15 := f15.y g_1 (by decide)
  clear f0
  replace f := f.k g_1.g (ap_some (by omega))
  refine wl_nil ?_
  refine ret_cell rfl rfl Try.isAgg28 Try.sizeOf28 f_1 (by rw [vU_length, hr8]) ?_
  exact ⟨rfl, hw⟩
theorem C_refSum512 {A : Option Addr} {L : List By} {r : By} {n c : Nat} (w : World) (hK : RKy w A L) (hr : bytesU (runU Sl (padU L.flatten)) = r) (hn : n = L.length) (hL : L.length ≤ 40) (hL2 : ∀ x ∈ L, x.length ≤ 4000) :
    CallsR Try.prog 22 [.slice A n c] w fun v w' => v = .agg (B8 r).toArray ∧ Below w.heap.size w w' := by
  subst hn
  obtain ⟨b, hb⟩ : ∃ b, L.flatten = b := ⟨_, rfl⟩
  rw [hb] at hr
  have hbl : b.length ≤ 100000 * 2 := by
    have := flatten_le L 4000 hL2; rw [hb] at this; omega
  obtain ⟨r1, h1⟩ : ∃ r1, runU Sl (padU b) = r1 := ⟨_, rfl⟩
  rw [h1] at hr
  have hS8 : Sl.length = 8 := Sl_len
  have hr8 : r1.length = 8 := by rw [← h1]; exact runU_len _ hS8
  have hr64 : r.length = 64 := by rw [← hr, bytesU_len]
  refine callsR Try.func22 rfl rfl (by kernel_rfl) rfl ?_
  have hw := Below.refl w.heap.size w
  refine rk_seq ?_
  refine rk_region ?_
  refine wl_allocB Try.underlying37 Try.zeroValue37 (by rfl) ?_
  rintro g2 w2 f2 b2 i2 i2_1
  have s2 := b2.size
  replace hw := hw.trans (b2.mono hw.size)
  refine wl_nil ?_
  refine rk_seq ?_
  refine rk_region ?_
  refine wl_call rfl (C_refStart _) ?_
  rintro v3 w3 ⟨rfl, b3⟩
  have s3 := b3.size
  replace hw := hw.trans (b3.mono hw.size)
  replace f2 := f2.u b3
  refine wl_p (fun _ => o_move rfl) ?_
  refine wl_call rfl (C_refjoin _ (hK.u hw) hb rfl (by omega) (by omega)) ?_
  rintro v5 w5 ⟨A5, ⟨c5, ⟨rfl, ⟨f5, b5⟩⟩⟩⟩
  have qf5 := f5.cap
  have s5 := b5.size
  replace hw := hw.trans (b5.mono hw.size)
  replace f2 := f2.u b5
  refine wl_call rfl (C_refrun _ f5.to_Rd h1 (by rfl) rfl (by omega)) ?_
  rintro v6 w6 ⟨rfl, b6⟩
  have s6 := b6.size
  replace hw := hw.trans (b6.mono hw.size)
  replace f2 := f2.u b6
  replace f5 := f5.u b6
  refine wl_call rfl (C_refbytes _ hr (by omega)) ?_
  rintro v7 w7 ⟨rfl, b7⟩
  have s7 := b7.size
  replace hw := hw.trans (b7.mono hw.size)
  replace f5 := f5.u b7
  replace f2 := f2.u b7
  refine wl_stBa Try.sizeOf37 rfl f2 rfl (by omega) (by rfl) ?_
  rintro w_1 f g e
  have s := g.size
  replace hw := hw.trans (below_of_grownBy g.g hw.size (by omega))
  clear f2
  replace f5 := f5.k g.g (ap_some (by omega))
  refine wl_nil ?_
  refine ret_cell rfl rfl Try.isAgg37 Try.sizeOf37 f (by rw [B8_length, hr64]) ?_
  exact ⟨rfl, hw⟩
section
variable {P : Program} {N : Nat} {fr : Fr} {w : World} {ty t : TypeId} {x z : Operand} {g n : Nat} {kh : IntKind} {h : Int}
theorem o_slArrHi (k : Nat) (hu : P.underlying t = some (.array n 5)) (hs : ∀ w, (sizeOf 5).run P w = .ok 1 w) (hx : fr.ev x = some (.pointer (some ⟨g, 0, none⟩))) (hz : fr.ev z = some (.int kh h)) (hh : h = (k : Int)) (hk : k ≤ n) : OpV P N fr w (.slice t x none (some z) none) ty (.slice (some ⟨g, 0, none⟩) k n) w := fun a ha op hop _ => by
  subst hh
  simp [execOp, hop, ha.ev hx, ha.ev hz, Instr.sliceAt, Instr.sureAddr, run_underlying hu, Instr.sliceBounds, Instr.sliceBound, asIntOf, hs, hk, Addr.add]
end
set_option maxRecDepth 100000 in
theorem C_refSum {A : Option Addr} {L : List By} {r : By} {n c : Nat} (w : World) (hK : RKy w A L) (hr : (bytesU (runU Ul (padU L.flatten))).take 32 = r) (hn : n = L.length) (hL : L.length ≤ 40) (hL2 : ∀ x ∈ L, x.length ≤ 4000) :
    CallsR Try.prog 24 [.slice A n c] w fun v w' => v = .agg (B8 r).toArray ∧ Below w.heap.size w w' := by
  subst hn
  obtain ⟨b, hb⟩ : ∃ b, L.flatten = b := ⟨_, rfl⟩
  rw [hb] at hr
  have hbl : b.length ≤ 100000 * 2 := by
    have := flatten_le L 4000 hL2; rw [hb] at this; omega
  obtain ⟨u, hu⟩ : ∃ u, Ul = u := ⟨_, rfl⟩
  have hu8 : u.length = 8 := by rw [← hu]; exact Ul_len
  rw [hu] at hr
  obtain ⟨r1, h1⟩ : ∃ r1, runU u (padU b) = r1 := ⟨_, rfl⟩
  rw [h1] at hr
  have hr8 : r1.length = 8 := by rw [← h1]; exact runU_len _ hu8
  obtain ⟨r2, h2⟩ : ∃ r2, bytesU r1 = r2 := ⟨_, rfl⟩
  rw [h2] at hr
  have hr64 : r2.length = 64 := by rw [← h2, bytesU_len]
  have hr32 : r.length = 32 := by rw [← hr, List.length_take]; omega
  refine callsR Try.func24 rfl rfl (by kernel_rfl) rfl ?_
  have hw := Below.refl w.heap.size w
  refine rk_seq ?_
  refine rk_region ?_
  refine wl_allocB Try.underlying43 Try.zeroValue43 (by rfl) ?_
  rintro g2 w2 f2 b2 i2 i2_1
  have s2 := b2.size
  replace hw := hw.trans (b2.mono hw.size)
  refine wl_nil ?_
  refine rk_seq ?_
  refine rk_region ?_
  refine wl_call rfl (C_refStartShort _ hu) ?_
  rintro v5 w5 ⟨rfl, b5⟩
  have s5 := b5.size
  replace hw := hw.trans (b5.mono hw.size)
  replace f2 := f2.u b5
  refine wl_p (fun _ => o_move rfl) ?_
  refine wl_call rfl (C_refjoin _ (hK.u hw) hb rfl (by omega) (by omega)) ?_
  rintro v7 w7 ⟨A7, ⟨c7, ⟨rfl, ⟨f7, b7⟩⟩⟩⟩
  have qf7 := f7.cap
  have s7 := b7.size
  replace hw := hw.trans (b7.mono hw.size)
  replace f2 := f2.u b7
  refine wl_call rfl (C_refrun _ f7.to_Rd h1 (by omega) rfl (by omega)) ?_
  rintro v8 w8 ⟨rfl, b8⟩
  have s8 := b8.size
  replace hw := hw.trans (b8.mono hw.size)
  replace f2 := f2.u b8
  replace f7 := f7.u b8
  refine wl_call rfl (C_refbytes _ h2 (by omega)) ?_
  rintro v9 w9 ⟨rfl, b9⟩
  have s9 := b9.size
  replace hw := hw.trans (b9.mono hw.size)
  replace f7 := f7.u b9
  replace f2 := f2.u b9
  refine wl_allocB Try.underlying37 Try.zeroValue37 (by rfl) ?_
  rintro g3 w3 f3 b3 i3 i3_1
  have s3 := b3.size
  replace hw := hw.trans (b3.mono hw.size)
  replace f2 := f2.u b3
  replace f7 := f7.u b3
  refine wl_stBa Try.sizeOf37 rfl f3 rfl (by omega) (by rfl) ?_
  rintro w_1 f g e
  have s := g.size
  replace hw := hw.trans (below_of_grownBy g.g hw.size (by omega))
  replace f7 := f7.k g.g (ap_some (by omega))
  replace f2 := f2.k g.g (ap_some (by omega))
  clear f3
  refine wl_nil ?_
  refine rk_seq ?_
  refine rk_region ?_
  refine wl_allocB Try.underlying43 Try.zeroValue43 (by rfl) ?_
  rintro g4 w4 f4 b4 i4 i4_1
  have s4 := b4.size
  replace hw := hw.trans (b4.mono hw.size)
  replace f2 := f2.u b4
  replace f7 := f7.u b4
  replace f := f.u b4
  refine wl_nil ?_
  refine rk_seq ?_
  refine rk_draw (id := 3) (none) [0, 0, 3] [0, 0, 3] 4 0 [(.p, 0), (.p, 1), (.l, 2)] (by kernel_rfl) (by kernel_rfl) (by kernel_rfl) (by kernel_rfl) (by kernel_rfl) ?_
  replace hw := hw.drew
  replace f := f.d
  replace f7 := f7.d
  replace f2 := f2.d
  replace f4 := f4.d
  refine wl_p (fun _ => o_slice_arr (t := 43) Try.underlying43 Try.sizeOf5 rfl) ?_
  refine wl_p (fun _ => o_slArrHi 32 Try.underlying37 Try.sizeOf5 rfl rfl rfl (by decide)) ?_
  have fp := rd_pre f 32
  rw [hr] at fp
  refine wl_copy Try.u8 rfl rfl hr32.symm fp f4 (by rw [B8_length, List.length_replicate]; decide) ?_
  intro w5' hB5 hg5 hz5
  rw [List.take_of_length_le (by omega), spl_all (by rw [B8_length, B8_length, List.length_replicate]; omega)] at hB5
  replace hw := hw.trans (below_of_grownBy hg5 hw.size (by omega))
  replace f2 := f2.grown hg5 (by intro e; injection e with e; omega)
  clear f f7 f4
  refine wl_nild ?_
  refine rk_seq ?_
  refine rk_region ?_
  refine wl_r (o_ldBa Try.isAgg43 Try.sizeOf43 rfl hB5 (by omega)) ?_
  refine wl_stBa Try.sizeOf43 rfl f2 rfl (by omega) (by rfl) ?_
  rintro w_2 f g_1 e_1
  have s_1 := g_1.size
  replace hw := hw.trans (below_of_grownBy g_1.g hw.size (by omega))
  clear f2
  replace hB5 := hB5.k g_1.g (ap_some (by omega))
  refine wl_nil ?_
  refine ret_cell rfl rfl Try.isAgg43 Try.sizeOf43 f (by rw [B8_length, hr32]) ?_
  exact ⟨rfl, hw⟩
end Go.Proofs.Ytldhmnakkkjenaa
