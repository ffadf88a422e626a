/-
  Walks of the reference for sums: all pieces, bytes, what is joined, sums.
-/
import Derived.Test.YtnnhenafhalobaaGreatMg8
import Derived.OpenShut
namespace Go.Proofs.YtnnhenafhalobaaGreat
set_option maxRecDepth 100000
open Go.RowKit
theorem C_refbytes {l : List UInt64} {r : List UInt8} (w : World) (hr : bytesU l = r) (hl : l.length = 8) :
    CallsR Tryz.prog 111 [.agg (vU l).toArray] w fun v w' => v = .agg (B8 r).toArray ∧ Below w.heap.size w w' := by
  have hr64 : r.length = 64 := by rw [← hr, bytesU_len]
  refine callsR Tryz.func111 rfl rfl (by kernel_rfl) rfl ?_
  have hw := Below.refl w.heap.size w
  refine rk_seq ?_
  refine rk_region ?_
  refine wl_boxg _ rfl (by rfl) ?_
  rintro g1 w1 f1 b1 i1 i1_1
  have s1 := b1.size
  replace hw := hw.trans (b1.mono hw.size)
  refine wl_allocB Tryz.underlying139 Tryz.zeroValue139 (by rfl) ?_
  rintro g2 w2 f2 b2 i2 i2_1
  have s2 := b2.size
  replace hw := hw.trans (b2.mono hw.size)
  replace f1 := f1.u b2
  refine wl_nil ?_
  refine rk_seq ?_
  refine rk_region ?_
  refine wl_allocB Tryz.underlying139 Tryz.zeroValue139 (by rfl) ?_
  rintro g3 w3 f3 b3 i3 i3_1
  have s3 := b3.size
  replace hw := hw.trans (b3.mono hw.size)
  replace f1 := f1.u b3
  replace f2 := f2.u b3
  refine wl_nil ?_
  refine rk_seq ?_
  refine rk_seq ?_
  refine rk_region ?_
  refine wl_p (fun _ => o_assign rfl) ?_
  refine wl_nil ?_
  refine rk_block ?_
  refine rk_joinf (fun fb fr w6 => fr = [] ++ fb.drop 1 ∧ Blk w6 g3 139 (B8 r) ∧ Blk w6 g2 139 (B8 (List.replicate 64 0)) ∧ w3.heap.size ≤ w6.heap.size ∧ Below w.heap.size w w6) ?_ (fun ks hj => ?_)
  rotate_left
  · refine rk_loopf (fun fb m fr w6 => ∃ (i : Nat) (v : Int) (q : List UInt8), fr = [(4, .int .i64 v)] ++ fb.drop 1 ∧ v = i ∧ i ≤ 64 ∧ m = 64 - i ∧ q = (bytesU l).take i ++ List.replicate (64 - i) 0 ∧ Blk w6 g3 139 (B8 q) ∧ Blk w6 g1 141 (vU l) ∧ Blk w6 g2 139 (B8 (List.replicate 64 0)) ∧ w3.heap.size ≤ w6.heap.size ∧ Below w.heap.size w w6) (n := 64) (Fr.le_of (by kernel_rfl) (by kernel_rfl) (by repeat' constructor)) ⟨0, _, _, rfl, rfl, by omega, rfl, rfl, f3, f1, f2, Nat.le_refl _, hw⟩ ?_
    clear hw f2 f1 f3
    rintro m fr w6 ⟨i, v, q, rfl, rfl, hi, rfl, hq, f3, f1, f2, hsz, hw⟩
    have shw := hw.size
    have hql : q.length = 64 := by
      rw [hq, List.length_append, List.length_take, bytesU_len, List.length_replicate]; omega
    first | refine rk_frame (by simp only [List.cons_append, List.nil_append, List.drop_succ_cons, List.drop_zero]; rfl) ?_ | refine wl_frame (by simp only [List.cons_append, List.nil_append, List.drop_succ_cons, List.drop_zero]; rfl) ?_
    refine rk_seq ?_
    refine rk_seq ?_
    refine rk_region ?_
    refine wl_p (fun _ => o_move rfl) ?_
    refine wl_p (fun _ => o_lt rfl rfl) ?_
    refine wl_nil ?_
    refine rk_if rfl (fun h6 => ?_) (fun h6 => ?_)
    · refine rk_skip ?_
      refine rk_seq ?_
      refine rk_block ?_
      refine rk_region ?_
      refine wl_p (fun _ => o_move rfl) ?_
      refine wl_p (fun _ => o_move rfl) ?_
      refine wl_p (fun _ => o_quo rfl rfl (by omega) (by omega) (by omega)) ?_
      refine wl_p (fun _ => (o_iaddrP (i / 8) Tryz.underlying141 Tryz.sizeOf52 rfl rfl (by omega) (by omega))) ?_
      refine wl_r (o_ldU Tryz.isAgg52 rfl f1 (by omega)) ?_
      refine wl_p (fun _ => o_move rfl) ?_
      refine wl_p (fun _ => o_rem rfl rfl (by omega) (by omega)) ?_
      refine wl_p (fun _ => o_mul rfl rfl (by omega) (by omega)) ?_
      refine wl_p (fun _ => o_sub rfl rfl (by omega) (by omega)) ?_
      refine wl_p (fun _ => o_convu64 (src := 3) (dst := 151) Tryz.underlying3 Tryz.underlying151 rfl (by omega) (by omega)) ?_
      refine wl_p (fun _ => o_shrU rfl rfl (by omega) (by omega)) ?_
      refine wl_p (fun _ => o_convU8 (src := 52) (dst := 5) Tryz.underlying52 Tryz.underlying5 rfl) ?_
      refine wl_p (fun _ => (o_iaddrP (i) Tryz.underlying139 Tryz.sizeOf5 rfl rfl rfl (by omega))) ?_
      refine wl_stB Tryz.sizeOf5 rfl f3 rfl (by omega) ?_
      rintro w_1 f g e
      have s := g.size
      replace hw := hw.trans (below_of_grownBy g.g hw.size (by omega))
      replace f2 := f2.k g.g (ap_some (by omega))
      replace f1 := f1.k g.g (ap_some (by omega))
      clear f3
      refine wl_nil ?_
      refine rk_blk ?_
      refine rk_region ?_
      refine wl_p (fun _ => o_move rfl) ?_
      refine wl_p (fun _ => o_add rfl rfl (by omega) (by omega)) ?_
      refine wl_p (fun _ => o_assign rfl) ?_
      refine wl_nil ?_
      rw [show (56 - 8 * ((i : Int) % 8)).toNat = 56 - 8 * (i % 8) by omega] at f
      exact rk_againf (Fr.le_of (by kernel_rfl) (by kernel_rfl) (by repeat' constructor)) ⟨i + 1, (i : Int) + 1, _, rfl, by omega, by omega, rfl, bytes_next (by omega) hq (by omega), f, f1, f2, by omega, hw⟩ (by omega)
    · refine rk_exit rfl ?_
      obtain rfl : i = 64 := by omega
      rw [List.take_of_length_le (by rw [bytesU_len]; omega), Nat.sub_self, List.replicate_zero, List.append_nil, hr] at hq
      subst hq
      exact rk_tof hj (Fr.le_of (by kernel_rfl) (by kernel_rfl) (by repeat' constructor)) ⟨rfl, f3, f2, hsz, hw⟩
  clear hw f2 f1 f3
  rintro fr w6 ⟨rfl, f3, f2, hsz, hw⟩
  have shw := hw.size
  first | refine rk_frame (by simp only [List.cons_append, List.nil_append, List.drop_succ_cons, List.drop_zero]; rfl) ?_ | refine wl_frame (by simp only [List.cons_append, List.nil_append, List.drop_succ_cons, List.drop_zero]; rfl) ?_
  refine rk_seq ?_
  refine rk_region ?_
  refine wl_r (o_ldBa Tryz.isAgg139 Tryz.sizeOf139 rfl f3 hr64) ?_
  refine wl_stBa Tryz.sizeOf139 rfl f2 rfl hr64 (by rfl) ?_
  rintro w_1 f g e
  have s := g.size
  replace hw := hw.trans (below_of_grownBy g.g hw.size (by omega))
  replace f3 := f3.k g.g (ap_some (by omega))
  clear f2
  refine wl_nil ?_
  refine ret_cell rfl rfl Tryz.isAgg139 Tryz.sizeOf139 f (by rw [B8_length, hr64]) ?_
  exact ⟨rfl, hw⟩
theorem C_refjoin {A : Option Addr} {L : List By} {r : By} {n c : Nat} (w : World) (hK : RKy w A L) (hr : L.flatten = r) (hn : n = L.length) (hl : L.length ≤ 40) (hl2 : ∀ x ∈ L, x.length ≤ 4000) :
    CallsR Tryz.prog 114 [.slice A n c] w fun v w' => ∃ A' c', v = .slice A' r.length c' ∧ OwnH w' w.heap.size w'.heap.size A' c' r ∧ Below w.heap.size w w' := by
  subst hn
  have hrl : r.length ≤ 160000 := by
    have := flatten_le L 4000 hl2; rw [hr] at this; omega
  refine callsR Tryz.func114 rfl rfl (by kernel_rfl) rfl ?_
  have hw := Below.refl w.heap.size w
  refine rk_seq ?_
  refine rk_region ?_
  refine wl_p (fun _ => o_assign rfl) ?_
  refine wl_nil ?_
  refine rk_seq ?_
  refine rk_region ?_
  refine wl_p (fun _ => o_assign rfl) ?_
  refine wl_nil ?_
  refine rk_seq ?_
  refine rk_seq ?_
  refine rk_region ?_
  refine wl_p (fun _ => o_assign rfl) ?_
  refine wl_nil ?_
  refine rk_block ?_
  refine rk_joinf (fun fb fr w3 => ∃ A' c', fr = [(3, .slice A' r.length c')] ++ fb.drop 2 ∧ OwnH w3 w.heap.size w3.heap.size A' c' r ∧ Below w.heap.size w w3) ?_ (fun ks hj => ?_)
  rotate_left
  · refine rk_loopf (fun fb m fr w3 => ∃ (i : Nat) (v : Int) (A' : Option Addr) (bs : By) (c' : Nat), fr = [(4, .int .i64 v), (3, .slice A' bs.length c')] ++ fb.drop 2 ∧ v = i ∧ i ≤ L.length ∧ m = L.length - i ∧ bs = (L.take i).flatten ∧ OwnH w3 w.heap.size w3.heap.size A' c' bs ∧ Below w.heap.size w w3) (n := L.length) (Fr.le_of (by kernel_rfl) (by kernel_rfl) (by repeat' constructor)) ⟨0, _, none, [], 0, rfl, rfl, by omega, rfl, rfl, OwnH.nil_, hw⟩ ?_
    clear hw
    rintro m fr w3 ⟨i, v, A', bs, c', rfl, rfl, hi, rfl, hbs, fo, hw⟩
    have shw := hw.size
    have h1 := flatten_take_le L i
    rw [hr, ← hbs] at h1
    first | refine rk_frame (by simp only [List.cons_append, List.nil_append, List.drop_succ_cons, List.drop_zero]; rfl) ?_ | refine wl_frame (by simp only [List.cons_append, List.nil_append, List.drop_succ_cons, List.drop_zero]; rfl) ?_
    refine rk_seq ?_
    refine rk_seq ?_
    refine rk_region ?_
    refine wl_p (fun _ => o_move rfl) ?_
    refine wl_p (fun _ => o_move rfl) ?_
    refine wl_p (fun _ => o_len (t := 72) Tryz.underlying72 rfl) ?_
    refine wl_p (fun _ => o_lt rfl rfl) ?_
    refine wl_nil ?_
    refine rk_if rfl (fun h8 => ?_) (fun h8 => ?_)
    · have hil : i < L.length := by omega
      have h2 := hl2 _ (List.getElem_mem hil)
      refine rk_skip ?_
      refine rk_seq ?_
      refine rk_block ?_
      refine rk_region ?_
      refine wl_p (fun _ => o_move rfl) ?_
      refine wl_p (fun _ => o_move rfl) ?_
      refine wl_p (fun _ => o_move rfl) ?_
      refine wl_p (fun _ => (o_iaddrA1 (i) Tryz.underlying72 Tryz.sizeOf35 rfl rfl rfl (hK.some_ (by omega)) (by omega))) ?_
      refine wl_ldKy rfl hK hw (by omega) ?_
      rintro A115 c115 f15 i15
      refine wl_appB Tryz.u8 rfl fo rfl rfl (f15.u hw) rfl (by omega) hw.size ?_
      rintro A16 c16 w16 f16 g16 b16 i16
      have qf16 := f16.cap
      have s16 := g16.size
      replace hw := hw.trans (b16.mono (by omega))
      clear fo
      refine wl_p (fun _ => o_assign rfl) ?_
      refine wl_nil ?_
      refine rk_blk ?_
      refine rk_region ?_
      refine wl_p (fun _ => o_move rfl) ?_
      refine wl_p (fun _ => o_add rfl rfl (by omega) (by omega)) ?_
      refine wl_p (fun _ => o_assign rfl) ?_
      refine wl_nil ?_
      exact rk_againf (Fr.le_of (by kernel_rfl) (by kernel_rfl) (by repeat' constructor)) ⟨i + 1, (i : Int) + 1, _, _, _, rfl, by omega, by omega, rfl, by rw [flatten_take L i hil, hbs], f16, hw⟩ (by omega)
    · refine rk_exit rfl ?_
      obtain rfl : i = L.length := by omega
      rw [List.take_length, hr] at hbs
      subst hbs
      exact rk_tof hj (Fr.le_of (by kernel_rfl) (by kernel_rfl) (by repeat' constructor)) ⟨A', c', rfl, fo, hw⟩
  clear hw
  rintro fr w3 ⟨A', c', rfl, fo, hw⟩
  have shw := hw.size
  first | refine rk_frame (by simp only [List.cons_append, List.nil_append, List.drop_succ_cons, List.drop_zero]; rfl) ?_ | refine wl_frame (by simp only [List.cons_append, List.nil_append, List.drop_succ_cons, List.drop_zero]; rfl) ?_
  refine rk_seq ?_
  refine rk_region ?_
  refine wl_p (fun _ => o_move rfl) ?_
  refine wl_p (fun _ => o_assign rfl) ?_
  refine wl_nil ?_
  refine ret1 rfl rfl ?_
  exact ⟨A', c', rfl, fo, hw⟩
theorem C_refrun {l : List UInt64} {A : Option Addr} {b : By} {r : List UInt64} {n c : Nat} (w : World) (hp : Rd w A b) (hr : runU l (padU b) = r) (hl : l.length = 8) (hn : n = b.length) (hbl : b.length ≤ 200000) :
    CallsR Tryz.prog 112 [.agg (vU l).toArray, .slice A n c] w fun v w' => v = .agg (vU r).toArray ∧ Below w.heap.size w w' := by
  subst hn
  have hr8 : r.length = 8 := by rw [← hr]; exact runU_len _ hl
  obtain ⟨M, hM⟩ := padU_mul b
  obtain ⟨p, hpe⟩ : ∃ p, padU b = p := ⟨_, rfl⟩
  have hpl2 : p.length ≤ 300000 := by rw [← hpe, padU_len]; have := zeros_lt b.length; omega
  rw [hpe] at hM hr
  have hr2 : (List.range M).foldl (fun s i => pieceU s (chunkB p i)) l = r := by
    rw [← hr]; unfold runU; rw [hM, Nat.mul_div_cancel_left _ (by decide)]
  refine callsR Tryz.func112 rfl rfl (by kernel_rfl) rfl ?_
  have hw := Below.refl w.heap.size w
  refine rk_seq ?_
  refine rk_region ?_
  refine wl_boxg _ rfl (by rfl) ?_
  rintro g2 w2 f2 b2 i2 i2_1
  have s2 := b2.size
  replace hw := hw.trans (b2.mono hw.size)
  refine wl_allocU Tryz.underlying141 Tryz.zeroValue141 (by rfl) ?_
  rintro g4 w4 f4 b4 i4 i4_1
  have s4 := b4.size
  replace hw := hw.trans (b4.mono hw.size)
  replace f2 := f2.u b4
  refine wl_nil ?_
  refine rk_seq ?_
  refine rk_region ?_
  refine wl_p (fun _ => o_move rfl) ?_
  refine wl_call rfl (C_refPad _ (hp.u hw) hpe rfl (by omega)) ?_
  rintro v8 w8 ⟨A8, ⟨c8, ⟨rfl, ⟨f8, b8⟩⟩⟩⟩
  have qf8 := f8.cap
  have s8 := b8.size
  replace hw := hw.trans (b8.mono hw.size)
  replace f2 := f2.u b8
  replace f4 := f4.u b8
  refine wl_p (fun _ => o_assign rfl) ?_
  refine wl_nil ?_
  refine rk_seq ?_
  refine rk_seq ?_
  refine rk_region ?_
  refine wl_p (fun _ => o_assign rfl) ?_
  refine wl_nil ?_
  refine rk_block ?_
  refine rk_joinf (fun fb fr w3 => fr = [] ++ fb.drop 1 ∧ Blk w3 g2 141 (vU r) ∧ Blk w3 g4 141 (vU (List.replicate 8 0)) ∧ w8.heap.size ≤ w3.heap.size ∧ Below w.heap.size w w3) ?_ (fun ks hj => ?_)
  rotate_left
  · refine rk_loopf (fun fb m fr w3 => ∃ (k j : Nat) (v : Int) (q : List UInt64), fr = [(6, .int .i64 v)] ++ fb.drop 1 ∧ v = j ∧ j = 128 * k ∧ k ≤ M ∧ m = M - k ∧ q.length = 8 ∧ q = (List.range k).foldl (fun s i => pieceU s (chunkB p i)) l ∧ Blk w3 g2 141 (vU q) ∧ Blk w3 g4 141 (vU (List.replicate 8 0)) ∧ OwnH w3 w4.heap.size w8.heap.size A8 c8 p ∧ w8.heap.size ≤ w3.heap.size ∧ Below w.heap.size w w3) (n := M) (Fr.le_of (by kernel_rfl) (by kernel_rfl) (by repeat' constructor)) ⟨0, 0, _, l, rfl, rfl, rfl, by omega, rfl, hl, rfl, f2, f4, f8, Nat.le_refl _, hw⟩ ?_
    clear hw f2 f4 f8
    rintro m fr w3 ⟨k, j, v, q, rfl, rfl, hj, hk, rfl, hql, hq, f2, f4, f8, hsz, hw⟩
    have shw := hw.size
    first | refine rk_frame (by simp only [List.cons_append, List.nil_append, List.drop_succ_cons, List.drop_zero]; rfl) ?_ | refine wl_frame (by simp only [List.cons_append, List.nil_append, List.drop_succ_cons, List.drop_zero]; rfl) ?_
    refine rk_seq ?_
    refine rk_seq ?_
    refine rk_region ?_
    refine wl_p (fun _ => o_move rfl) ?_
    refine wl_p (fun _ => o_move rfl) ?_
    refine wl_p (fun _ => o_len (t := 35) Tryz.underlying35 rfl) ?_
    refine wl_p (fun _ => o_lt rfl rfl) ?_
    refine wl_nil ?_
    refine rk_if rfl (fun h12 => ?_) (fun h12 => ?_)
    · obtain ⟨r1, h1⟩ : ∃ r1, pieceU q ((p.drop j).take (j + 128 - j)) = r1 := ⟨_, rfl⟩
      have hr18 : r1.length = 8 := by rw [← h1]; exact pieceU_len _ hql
      have hc128 : ((p.drop j).take (j + 128 - j)).length = 128 := by rw [List.length_take, List.length_drop]; omega
      refine rk_skip ?_
      refine rk_seq ?_
      refine rk_block ?_
      refine rk_draw (id := 5) (none) [0, 0, 0, 0, 8, 22, 33, 127] [0, 0, 0, 0, 8, 30, 63, 127] 192 0 [(.r, 0), (.p, 1), (.p, 2), (.p, 3), (.p, 4), (.p, 5), (.l, 6), (.l, 7)] (by kernel_rfl) (by kernel_rfl) (by kernel_rfl) (by kernel_rfl) (by kernel_rfl) ?_
      replace hw := hw.drew
      replace f8 := f8.d
      replace f4 := f4.d
      replace f2 := f2.d
      refine wl_r (o_ldUa Tryz.isAgg141 Tryz.sizeOf141 rfl f2 hql) ?_
      refine wl_p (fun _ => o_move rfl) ?_
      refine wl_p (fun _ => o_move rfl) ?_
      refine wl_p (fun _ => o_move rfl) ?_
      refine wl_p (fun _ => o_add rfl rfl (by omega) (by omega)) ?_
      refine wl_slBB Tryz.u8 (j) (j + 128) rfl rfl rfl f8.to_Rd rfl rfl (by omega) (by omega) (by omega) (by omega) ?_
      rintro A20 c20 f20 i20 i20_1
      refine wl_call rfl (C_refpiece _ f20 h1 hql hc128 (by omega)) ?_
      rintro v21 w21 ⟨rfl, b21⟩
      simp only [drew_size] at b21
      have s21 := b21.size
      simp only [drew_size] at s21
      replace hw := hw.trans (b21.mono hw.size)
      replace f20 := f20.u b21
      replace f2 := f2.u b21
      replace f4 := f4.u b21
      replace f8 := f8.u b21
      refine wl_stUa Tryz.sizeOf141 rfl f2 rfl hr18 hql ?_
      rintro w_1 f g e
      have s := g.size
      replace hw := hw.trans (below_of_grownBy g.g hw.size (by omega))
      replace f8 := f8.k g.g (ap_some (by omega))
      replace f4 := f4.k g.g (ap_some (by omega))
      clear f2
      clear f20
      refine wl_nild ?_
      refine rk_blk ?_
      refine rk_region ?_
      refine wl_p (fun _ => o_move rfl) ?_
      refine wl_p (fun _ => o_add rfl rfl (by omega) (by omega)) ?_
      refine wl_p (fun _ => o_assign rfl) ?_
      refine wl_nil ?_
      exact rk_againf (Fr.le_of (by kernel_rfl) (by kernel_rfl) (by repeat' constructor)) ⟨k + 1, j + 128, (j : Int) + 128, r1, rfl, by omega, by omega, by omega, rfl, hr18, by
        rw [List.range_succ, List.foldl_append, ← hq, ← h1, hj, show 128 * k + 128 - 128 * k = 128 by omega]; rfl, f, f4, f8, by omega, hw⟩ (by omega)
    · refine rk_exit rfl ?_
      obtain rfl : k = M := by omega
      rw [hr2] at hq
      subst hq
      exact rk_tof hj (Fr.le_of (by kernel_rfl) (by kernel_rfl) (by repeat' constructor)) ⟨rfl, f2, f4, hsz, hw⟩
  clear hw f2 f4 f8
  rintro fr w3 ⟨rfl, f2, f4, hsz, hw⟩
  have shw := hw.size
  first | refine rk_frame (by simp only [List.cons_append, List.nil_append, List.drop_succ_cons, List.drop_zero]; rfl) ?_ | refine wl_frame (by simp only [List.cons_append, List.nil_append, List.drop_succ_cons, List.drop_zero]; rfl) ?_
  refine rk_seq ?_
  refine rk_region ?_
  refine wl_r (o_ldUa Tryz.isAgg141 Tryz.sizeOf141 rfl f2 hr8) ?_
  refine wl_stUa Tryz.sizeOf141 rfl f4 rfl hr8 (by rfl) ?_
  rintro w_1 f g e
  have s := g.size
  replace hw := hw.trans (below_of_grownBy g.g hw.size (by omega))
  replace f2 := f2.k g.g (ap_some (by omega))
  clear f4
  refine wl_nil ?_
  refine ret_cell rfl rfl Tryz.isAgg141 Tryz.sizeOf141 f (by rw [vU_length, hr8]) ?_
  exact ⟨rfl, hw⟩
set_option maxHeartbeats 1000000 in
set_option maxRecDepth 100000 in
theorem C_refStartShort {r : List UInt64} (w : World) (hr : Ul = r) :
    CallsR Tryz.prog 113 [] w fun v w' => v = .agg (vU r).toArray ∧ Below w.heap.size w w' := by
  have hr8 : r.length = 8 := by rw [← hr]; exact Ul_len
  have hr2 : runU Tl (padU nameB) = r := by rw [← hr]; rfl
  have hS8 : Sl.length = 8 := Sl_len
  obtain ⟨tl, htl⟩ : ∃ tl, Tl = tl := ⟨_, rfl⟩
  obtain ⟨sl, hsl⟩ : ∃ sl, Sl = sl := ⟨_, rfl⟩
  have hts : sl.map (· ^^^ 11936128518282651045) = tl := by rw [← htl, ← hsl]; rfl
  have ht8 : tl.length = 8 := by rw [← htl]; rfl
  rw [htl] at hr2
  rw [hsl] at hS8
  refine callsR Tryz.func113 rfl rfl (by kernel_rfl) rfl ?_
  have hw := Below.refl w.heap.size w
  refine rk_seq ?_
  refine rk_region ?_
  refine wl_allocU Tryz.underlying141 Tryz.zeroValue141 (by rfl) ?_
  rintro g0 w0 f0 b0 i0 i0_1
  have s0 := b0.size
  replace hw := hw.trans (b0.mono hw.size)
  refine wl_nil ?_
  refine rk_seq ?_
  refine rk_region ?_
  refine wl_call rfl (C_refStart _) ?_
  rintro v3 w3 ⟨rfl, b3⟩
  have s3 := b3.size
  replace hw := hw.trans (b3.mono hw.size)
  replace f0 := f0.u b3
  refine wl_allocU Tryz.underlying141 Tryz.zeroValue141 (by rfl) ?_
  rintro g1 w1 f1 b1 i1 i1_1
  have s1 := b1.size
  replace hw := hw.trans (b1.mono hw.size)
  replace f0 := f0.u b1
  refine wl_stUa Tryz.sizeOf141 rfl f1 rfl (by rfl) (by rfl) ?_
  rintro w_1 f g e
  have s := g.size
  replace hw := hw.trans (below_of_grownBy g.g hw.size (by omega))
  replace f0 := f0.k g.g (ap_some (by omega))
  clear f1
  refine wl_nil ?_
  refine rk_seq ?_
  refine rk_seq ?_
  refine rk_region ?_
  refine wl_p (fun _ => o_assign rfl) ?_
  refine wl_nil ?_
  refine rk_block ?_
  rw [hsl] at f
  refine rk_joinf (fun fb fr w2 => fr = [] ++ fb.drop 1 ∧ Blk w2 g1 141 (vU tl) ∧ Blk w2 g0 141 (vU (List.replicate 8 0)) ∧ w_1.heap.size ≤ w2.heap.size ∧ Below w.heap.size w w2) ?_ (fun ks hj => ?_)
  rotate_left
  · refine rk_loopf (fun fb m fr w2 => ∃ (i : Nat) (v : Int) (q : List UInt64), fr = [(2, .int .i64 v)] ++ fb.drop 1 ∧ v = i ∧ i ≤ 8 ∧ m = 8 - i ∧ q = (sl.map (· ^^^ 11936128518282651045)).take i ++ sl.drop i ∧ Blk w2 g1 141 (vU q) ∧ Blk w2 g0 141 (vU (List.replicate 8 0)) ∧ w_1.heap.size ≤ w2.heap.size ∧ Below w.heap.size w w2) (n := 8) (Fr.le_of (by kernel_rfl) (by kernel_rfl) (by repeat' constructor)) ⟨0, _, _, rfl, rfl, by omega, rfl, rfl, f, f0, Nat.le_refl _, hw⟩ ?_
    clear hw f f0
    rintro m fr w2 ⟨i, v, q, rfl, rfl, hi, rfl, hq, f, f0, hsz, hw⟩
    have shw := hw.size
    have hql : q.length = 8 := by
      rw [hq, List.length_append, List.length_take, List.length_map, List.length_drop]; omega
    first | refine rk_frame (by simp only [List.cons_append, List.nil_append, List.drop_succ_cons, List.drop_zero]; rfl) ?_ | refine wl_frame (by simp only [List.cons_append, List.nil_append, List.drop_succ_cons, List.drop_zero]; rfl) ?_
    refine rk_seq ?_
    refine rk_seq ?_
    refine rk_region ?_
    refine wl_p (fun _ => o_move rfl) ?_
    refine wl_p (fun _ => o_lt rfl rfl) ?_
    refine wl_nil ?_
    refine rk_if rfl (fun h5 => ?_) (fun h5 => ?_)
    · have hil : i < q.length := by omega
      have e1 : bits .xor .u64 (q[i].toNat : Int) 11936128518282651045 = ((q[i] ^^^ 11936128518282651045).toNat : Int) := by
        rw [UInt64.toNat_xor]; exact bits_xor_u64_nat q[i].toNat 11936128518282651045 (u64_lt _) (by decide)
      refine rk_skip ?_
      refine rk_seq ?_
      refine rk_block ?_
      refine rk_region ?_
      refine wl_p (fun _ => o_move rfl) ?_
      refine wl_p (fun _ => o_move rfl) ?_
      refine wl_p (fun _ => (o_iaddrP (i) Tryz.underlying141 Tryz.sizeOf52 rfl rfl rfl (by omega))) ?_
      refine wl_r (o_ldU Tryz.isAgg52 rfl f (by omega)) ?_
      refine wl_p (fun _ => o_xor rfl rfl) ?_
      refine wl_p (fun _ => (o_iaddrP (i) Tryz.underlying141 Tryz.sizeOf52 rfl rfl rfl (by omega))) ?_
      rw [e1]
      refine wl_stU Tryz.sizeOf52 rfl f rfl (by omega) ?_
      rintro w_2 f_1 g_1 e_1
      have s_1 := g_1.size
      replace hw := hw.trans (below_of_grownBy g_1.g hw.size (by omega))
      replace f0 := f0.k g_1.g (ap_some (by omega))
      clear f
      refine wl_nil ?_
      refine rk_blk ?_
      refine rk_region ?_
      refine wl_p (fun _ => o_move rfl) ?_
      refine wl_p (fun _ => o_add rfl rfl (by omega) (by omega)) ?_
      refine wl_p (fun _ => o_assign rfl) ?_
      refine wl_nil ?_
      exact rk_againf (Fr.le_of (by kernel_rfl) (by kernel_rfl) (by repeat' constructor)) ⟨i + 1, (i : Int) + 1, _, rfl, by omega, by omega, rfl, map_next (f := (· ^^^ 11936128518282651045)) hq hil (by omega), f_1, f0, by omega, hw⟩ (by omega)
    · refine rk_exit rfl ?_
      obtain rfl : i = 8 := by omega
      rw [List.take_of_length_le (by rw [List.length_map]; omega), List.drop_of_length_le (by omega), List.append_nil, hts] at hq
      subst hq
      exact rk_tof hj (Fr.le_of (by kernel_rfl) (by kernel_rfl) (by repeat' constructor)) ⟨rfl, f, f0, hsz, hw⟩
  clear hw f f0
  rintro fr w2 ⟨rfl, f, f0, hsz, hw⟩
  have shw := hw.size
  have hr3 : runU tl (padU [83, 72, 65, 45, 53, 49, 50, 47, 50, 53, 54]) = r := hr2
  first | refine rk_frame (by simp only [List.cons_append, List.nil_append, List.drop_succ_cons, List.drop_zero]; rfl) ?_ | refine wl_frame (by simp only [List.cons_append, List.nil_append, List.drop_succ_cons, List.drop_zero]; rfl) ?_
  refine rk_seq ?_
  refine rk_region ?_
  refine wl_r (o_ldUa Tryz.isAgg141 Tryz.sizeOf141 rfl f ht8) ?_
  refine wl_litC [83, 72, 65, 45, 53, 49, 50, 47, 50, 53, 54] Tryz.u8 Tryz.sizeOf5 Tryz.zeroValue5 (by rfl) rfl rfl (by rfl) (by rfl) (by rfl) ?_
  rintro A15 w15 f15 b15
  have s15 := b15.size
  replace hw := hw.trans (b15.mono hw.size)
  replace f0 := f0.u b15
  replace f := f.u b15
  refine wl_call rfl (C_refrun _ f15.to_Rd hr3 ht8 (by rfl) (by simp)) ?_
  rintro v17 w17 ⟨rfl, b17⟩
  have s17 := b17.size
  replace hw := hw.trans (b17.mono hw.size)
  replace f := f.u b17
  replace f0 := f0.u b17
  replace f15 := f15.u b17
  refine wl_stUa Tryz.sizeOf141 rfl f0 rfl hr8 (by rfl) ?_
  rintro w_2 f_1 g_1 e_1
  have s_1 := g_1.size
  replace hw := hw.trans (below_of_grownBy g_1.g hw.size (by omega))
  replace f15 := f15.y g_1 (by decide)
  replace f := f.k g_1.g (ap_some (by omega))
  clear f0
  refine wl_nil ?_
  refine ret_cell rfl rfl Tryz.isAgg141 Tryz.sizeOf141 f_1 (by rw [vU_length, hr8]) ?_
  exact ⟨rfl, hw⟩
set_option maxRecDepth 100000 in
theorem C_refSum {A : Option Addr} {L : List By} {r : By} {n c : Nat} (w : World) (hK : RKy w A L) (hr : (bytesU (runU Ul (padU L.flatten))).take 32 = r) (hn : n = L.length) (hL : L.length ≤ 40) (hL2 : ∀ x ∈ L, x.length ≤ 4000) :
    CallsR Tryz.prog 90 [.slice A n c] w fun v w' => v = .agg (B8 r).toArray ∧ Below w.heap.size w w' := by
  subst hn
  obtain ⟨b, hb⟩ : ∃ b, L.flatten = b := ⟨_, rfl⟩
  rw [hb] at hr
  have hbl : b.length ≤ 100000 * 2 := by
    have := flatten_le L 4000 hL2; rw [hb] at this; omega
  obtain ⟨u, hu⟩ : ∃ u, Ul = u := ⟨_, rfl⟩
  have hu8 : u.length = 8 := by rw [← hu]; exact Ul_len
  rw [hu] at hr
  obtain ⟨r1, h1⟩ : ∃ r1, runU u (padU b) = r1 := ⟨_, rfl⟩
  rw [h1] at hr
  have hr8 : r1.length = 8 := by rw [← h1]; exact runU_len _ hu8
  obtain ⟨r2, h2⟩ : ∃ r2, bytesU r1 = r2 := ⟨_, rfl⟩
  rw [h2] at hr
  have hr64 : r2.length = 64 := by rw [← h2, bytesU_len]
  have hr32 : r.length = 32 := by rw [← hr, List.length_take]; omega
  refine callsR Tryz.func90 rfl rfl (by kernel_rfl) rfl ?_
  have hw := Below.refl w.heap.size w
  refine rk_seq ?_
  refine rk_region ?_
  refine wl_allocB Tryz.underlying64 Tryz.zeroValue64 (by rfl) ?_
  rintro g2 w2 f2 b2 i2 i2_1
  have s2 := b2.size
  replace hw := hw.trans (b2.mono hw.size)
  refine wl_nil ?_
  refine rk_seq ?_
  refine rk_region ?_
  refine wl_call rfl (C_refStartShort _ hu) ?_
  rintro v5 w5 ⟨rfl, b5⟩
  have s5 := b5.size
  replace hw := hw.trans (b5.mono hw.size)
  replace f2 := f2.u b5
  refine wl_p (fun _ => o_move rfl) ?_
  refine wl_call rfl (C_refjoin _ (hK.u hw) hb rfl (by omega) (by omega)) ?_
  rintro v7 w7 ⟨A7, ⟨c7, ⟨rfl, ⟨f7, b7⟩⟩⟩⟩
  have qf7 := f7.cap
  have s7 := b7.size
  replace hw := hw.trans (b7.mono hw.size)
  replace f2 := f2.u b7
  refine wl_call rfl (C_refrun _ f7.to_Rd h1 hu8 rfl (by omega)) ?_
  rintro v8 w8 ⟨rfl, b8⟩
  have s8 := b8.size
  replace hw := hw.trans (b8.mono hw.size)
  replace f2 := f2.u b8
  replace f7 := f7.u b8
  refine wl_call rfl (C_refbytes _ h2 hr8) ?_
  rintro v9 w9 ⟨rfl, b9⟩
  have s9 := b9.size
  replace hw := hw.trans (b9.mono hw.size)
  replace f7 := f7.u b9
  replace f2 := f2.u b9
  refine wl_allocB Tryz.underlying139 Tryz.zeroValue139 (by rfl) ?_
  rintro g3 w3 f3 b3 i3 i3_1
  have s3 := b3.size
  replace hw := hw.trans (b3.mono hw.size)
  replace f2 := f2.u b3
  replace f7 := f7.u b3
  refine wl_stBa Tryz.sizeOf139 rfl f3 rfl hr64 (by rfl) ?_
  rintro w_1 f g e
  have s := g.size
  replace hw := hw.trans (below_of_grownBy g.g hw.size (by omega))
  replace f7 := f7.k g.g (ap_some (by omega))
  replace f2 := f2.k g.g (ap_some (by omega))
  clear f3
  refine wl_nil ?_
  refine rk_seq ?_
  refine rk_region ?_
  refine wl_allocB Tryz.underlying64 Tryz.zeroValue64 (by rfl) ?_
  rintro g4 w4 f4 b4 i4 i4_1
  have s4 := b4.size
  replace hw := hw.trans (b4.mono hw.size)
  replace f2 := f2.u b4
  replace f7 := f7.u b4
  replace f := f.u b4
  refine wl_nil ?_
  refine rk_seq ?_
  refine rk_draw (id := 3) (none) [0, 0, 3] [0, 0, 3] 4 0 [(.p, 0), (.p, 1), (.l, 2)] (by kernel_rfl) (by kernel_rfl) (by kernel_rfl) (by kernel_rfl) (by kernel_rfl) ?_
  replace hw := hw.drew
  replace f := f.d
  replace f7 := f7.d
  replace f2 := f2.d
  replace f4 := f4.d
  refine wl_p (fun _ => o_slice_arr (t := 64) Tryz.underlying64 Tryz.sizeOf5 rfl) ?_
  refine wl_p (fun _ => (o_slArrHi (32) Tryz.underlying139 Tryz.sizeOf5 rfl rfl (by omega) (by omega))) ?_
  try refine wl_p (fun _ => o_slArrHi 32 Tryz.underlying139 Tryz.sizeOf5 rfl rfl rfl (by decide)) ?_
  have fp := rd_pre f 32
  rw [hr] at fp
  refine wl_copy Tryz.u8 rfl rfl hr32.symm fp f4 (by rw [B8_length, List.length_replicate]; decide) ?_
  intro w5' hB5 hg5 hz5
  rw [List.take_of_length_le (by omega), spl_all (by rw [B8_length, B8_length, List.length_replicate]; omega)] at hB5
  replace hw := hw.trans (below_of_grownBy hg5 hw.size (by omega))
  replace f2 := f2.grown hg5 (by intro e; injection e with e; omega)
  clear f f7 f4
  refine wl_nild ?_
  refine rk_seq ?_
  refine rk_region ?_
  refine wl_r (o_ldBa Tryz.isAgg64 Tryz.sizeOf64 rfl hB5 hr32) ?_
  refine wl_stBa Tryz.sizeOf64 rfl f2 rfl hr32 (by rfl) ?_
  rintro w_2 f g_1 e_1
  have s_1 := g_1.size
  replace hw := hw.trans (below_of_grownBy g_1.g hw.size (by omega))
  replace hB5 := hB5.k g_1.g (ap_some (by omega))
  clear f2
  refine wl_nil ?_
  refine ret_cell rfl rfl Tryz.isAgg64 Tryz.sizeOf64 f (by rw [B8_length, hr32]) ?_
  exact ⟨rfl, hw⟩
end Go.Proofs.YtnnhenafhalobaaGreat
/-
  Walk of the document's Word.
-/
namespace Go.Proofs.YtnnhenafhalobaaGreat
set_option maxRecDepth 100000
open Go.RowKit
end Go.Proofs.YtnnhenafhalobaaGreat
/-
  Walks of the document's answer for chapter 1: what it writes (numbers, blocks).
-/
namespace Go.Proofs.YtnnhenafhalobaaGreat
set_option maxRecDepth 100000
open Go.RowKit
theorem div_pow_zero {n i j : Nat} (h : n / 2 ^ i = 0) (hij : i ≤ j) : n / 2 ^ j = 0 := by
  apply Nat.div_eq_of_lt
  have h2 : n < 2 ^ i := by
    rcases Nat.lt_or_ge n (2 ^ i) with h3 | h3
    · exact h3
    · have := (Nat.one_le_div_iff (Nat.two_pow_pos i)).2 h3
      omega
  exact Nat.lt_of_lt_of_le h2 (Nat.pow_le_pow_right (by decide) hij)
theorem room_char (n j : Nat) (h1 : 1 ≤ j) (h9 : j ≤ 9) (hlo : j = 1 ∨ n / 2 ^ (7 * (j - 1)) ≠ 0) (hhi : j = 9 ∨ n / 2 ^ (7 * j) = 0) : room n = j := by
  have hk := room_pos n
  rcases Nat.lt_trichotomy (room n) j with h | h | h
  · rcases hlo with e | e
    · omega
    · rcases room_hi n with e2 | e2
      · omega
      · exact absurd (div_pow_zero e2 (by omega)) e
  · exact h
  · rcases hhi with e | e
    · omega
    · rcases room_low n with e2 | e2
      · omega
      · exact absurd (div_pow_zero e (by omega)) e2

theorem shift_nat (n : Nat) (k : Int) (j : Nat) (hk : k = j) (hj : j ≤ 64) : (n : Int) / 2 ^ min k.toNat IntKind.u64.bits = ((n / 2 ^ j : Nat) : Int) := by
  have e2 : min k.toNat IntKind.u64.bits = j := by show min _ 64 = _; omega
  rw [e2]; rfl

theorem C_refroom (n : Nat) (w : World) (hn : n < u64) :
    CallsR Tryz.prog 123 [.int .u64 n] w fun v w' => v = .int .i64 (room n) ∧ w = w' := by
  refine callsR Tryz.func123 rfl rfl (by kernel_rfl) rfl ?_
  refine rk_seq ?_
  refine rk_region ?_
  refine wl_p (fun _ => o_assign rfl) ?_
  refine wl_nil ?_
  refine rk_seq ?_
  refine rk_region ?_
  refine wl_p (fun _ => o_assign rfl) ?_
  refine wl_nil ?_
  refine rk_seq ?_
  refine rk_block ?_
  refine rk_loop (fun m fr w' => ∃ k : Nat, ∃ v : Int, fr = [(0, .int .u64 n), (3, .int .i64 v)] ∧ v = k ∧ 1 ≤ k ∧ k ≤ 9 ∧ m = 9 - k ∧ (k = 1 ∨ n / 2 ^ (7 * (k - 1)) ≠ 0) ∧ w = w') (n := 8) (by repeat' constructor) ⟨1, 1, rfl, rfl, by omega, by omega, rfl, .inl rfl, rfl⟩ ?_
  rintro m fr _ ⟨k, v, rfl, rfl, hk1, hk9, rfl, hk, rfl⟩
  refine rk_seq ?_
  refine rk_seq ?_
  refine rk_region ?_
  refine wl_p (fun _ => o_move rfl) ?_
  refine wl_p (fun _ => o_lt rfl rfl) ?_
  refine wl_p (fun _ => o_move rfl) ?_
  refine wl_bool 6 rfl (fun h6 => ?_) (fun h6 => ?_)
  · have h9 : (k : Int) < 9 := of_decide_eq_true h6
    refine wl_p (fun _ => o_move rfl) ?_
    refine wl_p (fun _ => o_move rfl) ?_
    refine wl_p (fun _ => o_mul rfl rfl (by omega) (by omega)) ?_
    refine wl_p (fun _ => o_convu64 (src := 3) (dst := 151) Tryz.underlying3 Tryz.underlying151 rfl (by omega) (by omega)) ?_
    refine wl_p (fun _ => o_shr rfl rfl (by omega)) ?_
    refine wl_p (fun _ => o_ne rfl rfl) ?_
    refine wl_p (fun _ => o_pick_t rfl rfl) ?_
    refine wl_nil ?_
    refine rk_if rfl (fun h => ?_) (fun h => ?_)
    · rw [shift_nat n _ (7 * k) (by omega) (by omega)] at h
      refine rk_skip ?_
      refine rk_block ?_
      refine rk_region ?_
      refine wl_p (fun _ => o_move rfl) ?_
      refine wl_p (fun _ => o_add rfl rfl (by omega) (by omega)) ?_
      refine wl_p (fun _ => o_assign rfl) ?_
      refine wl_nil ?_
      refine rk_blk ?_
      exact rk_again (by repeat' constructor) ⟨k + 1, _, rfl, rfl, by omega, by omega, rfl, .inr (by simp only [Nat.add_sub_cancel]; omega), rfl⟩ (by omega)
    · rw [shift_nat n _ (7 * k) (by omega) (by omega)] at h
      refine rk_exit rfl ?_
      refine rk_seq ?_
      refine rk_region ?_
      refine wl_p (fun _ => o_move rfl) ?_
      refine wl_p (fun _ => o_assign rfl) ?_
      refine wl_nil ?_
      refine ret1 rfl rfl ?_
      exact ⟨by rw [room_char n k hk1 hk9 hk (.inr (by omega))], rfl⟩
  · have h9 : ¬ (k : Int) < 9 := of_decide_eq_false h6
    refine wl_off ?_
    refine wl_off ?_
    refine wl_off ?_
    refine wl_off ?_
    refine wl_off ?_
    refine wl_off ?_
    refine wl_p (fun _ => o_pick_f rfl rfl) ?_
    refine wl_nil ?_
    refine rk_false rfl ?_
    refine rk_exit rfl ?_
    refine rk_seq ?_
    refine rk_region ?_
    refine wl_p (fun _ => o_move rfl) ?_
    refine wl_p (fun _ => o_assign rfl) ?_
    refine wl_nil ?_
    refine ret1 rfl rfl ?_
    exact ⟨by rw [room_char n k hk1 hk9 hk (.inl (by omega))], rfl⟩

theorem ref_byte (n : Nat) (h : n < 18446744073709551616) : IntKind.u8.wrap (IntKind.u8.wrap (IntKind.u64.wrap (256 - IntKind.u64.wrap (1 * 2 ^ min (9 - (room n : Int)).toNat IntKind.u64.bits))) + IntKind.u8.wrap ((n : Int) / 2 ^ min (8 * ((room n : Int) - 1)).toNat IntKind.u64.bits)) = ((first (room n) n).toNat : Int) := by
  have hk := room_pos n
  have hlt := room_lt n h
  have e1 : (8 * ((room n : Int) - 1)) = 8 * ((room n - 1 : Nat) : Int) := by omega
  rw [e1, byte_shift n (room n - 1) (by omega)]
  unfold first
  generalize hq : n / 256 ^ (room n - 1) = q at *
  have hq256 : q < 256 := Nat.lt_of_lt_of_le hlt (Nat.pow_le_pow_right (by omega) (show 8 - room n ≤ 8 by omega))
  have e2 : IntKind.u8.wrap (IntKind.u64.wrap (256 - IntKind.u64.wrap (1 * 2 ^ min (9 - (room n : Int)).toNat IntKind.u64.bits))) = (((256 - 2 ^ (9 - room n)) % 256 : Nat) : Int) := by
    have h3 : ∀ k : Fin 10, 1 ≤ k.val → IntKind.u8.wrap (IntKind.u64.wrap (256 - IntKind.u64.wrap (1 * 2 ^ min (9 - (k.val : Int)).toNat IntKind.u64.bits))) = (((256 - 2 ^ (9 - k.val)) % 256 : Nat) : Int) := by decide +kernel
    exact h3 ⟨room n, by omega⟩ hk.1
  rw [e2, UInt8.toNat_ofNat', UInt8.toNat_ofNat', IntKind.wrap_u8']
  generalize 256 - 2 ^ (9 - room n) = r
  omega

theorem C_refNumber {A : Option Addr} {l : List UInt8} (c : Nat) (n : Nat) (w : World) (hr : Rd w A l) (hn : n < u64) (hl : l.length ≤ 140737488355000) :
    CallsR Tryz.prog 104 [.slice A l.length c, .int .u64 n] w fun v w' => ∃ A' c', v = .slice A' (l ++ enc n).length c' ∧ Own w' w.heap.size A' c' (l ++ enc n) ∧ Below w.heap.size w w' := by
  have hk := room_pos n
  refine callsR Tryz.func104 rfl rfl (by kernel_rfl) rfl ?_
  refine rk_seq ?_
  refine rk_region ?_
  refine wl_p (fun _ => o_assign rfl) ?_
  refine wl_nil ?_
  refine rk_seq ?_
  refine rk_region ?_
  refine wl_lit8 (xs := []) [] Tryz.u8 Tryz.sizeOf5 Tryz.zeroValue5 rfl rfl ?_
  intro w1 hown1 hb1 hz1
  refine wl_p (fun _ => o_move rfl) ?_
  refine wl_app (s := []) Tryz.u8 rfl rfl hown1 rfl rfl (hr.below hb1) (by simp; omega) hb1.size ?_
  intro A10 c10 w10 hown10 hg10 hk10 hb10
  rw [List.nil_append] at hown10 ⊢
  have hb := hb1.trans hb10
  refine wl_p (fun _ => o_assign rfl) ?_
  refine wl_nil ?_
  refine rk_seq ?_
  refine rk_region ?_
  refine wl_p (fun _ => o_move rfl) ?_
  refine wl_call rfl (C_refroom n w10 hn) ?_
  rintro _ w12 ⟨rfl, rfl⟩
  refine wl_p (fun _ => o_assign rfl) ?_
  refine wl_nil ?_
  refine rk_seq ?_
  refine rk_seq ?_
  refine rk_region ?_
  refine wl_p (fun _ => o_move rfl) ?_
  refine wl_p (fun _ => o_eq rfl rfl) ?_
  refine wl_nil ?_
  refine rk_join (fun fr w' => ∃ A' c' len, fr = [(1, .int .u64 n), (5, .slice A' len c'), (6, .int .i64 (room n))] ∧ len = (l ++ [first (room n) n]).length ∧ Own w' w.heap.size A' c' (l ++ [first (room n) n]) ∧ Below w.heap.size w w') ?_ (fun ks hj => ?_)
  · rintro fr w2 ⟨A', c', len, rfl, hln, hown', hb'⟩
    refine rk_seq ?_
    refine rk_seq ?_
    refine rk_region ?_
    refine wl_p (fun _ => o_move rfl) ?_
    refine wl_p (fun _ => o_sub rfl rfl (by omega) (by omega)) ?_
    refine wl_p (fun _ => o_assign rfl) ?_
    refine wl_nil ?_
    refine rk_block ?_
    refine rk_loop (fun j fr w' => ∃ A' c' len l' i, fr = [(1, .int .u64 n), (5, .slice A' len c'), (7, .int .i64 i)] ∧ len = l'.length ∧ i = (j : Int) - 1 ∧ j ≤ 8 ∧ l' ++ beB j n = l ++ enc n ∧ Own w' w.heap.size A' c' l' ∧ Below w.heap.size w w')
      (n := room n - 1) (by repeat' constructor) ⟨A', c', _, _, _, rfl, hln, by omega, by omega, by simp [enc], hown', hb'⟩ ?_
    rintro j fr w3 ⟨A', c', len, l', i, rfl, hln, hi, hj8, hl', hown', hb'⟩
    have hlen : l'.length + j = l.length + room n := by have := congrArg List.length hl'; simpa [beB_length, enc_length] using this
    refine rk_seq ?_
    refine rk_seq ?_
    refine rk_region ?_
    refine wl_p (fun _ => o_move rfl) ?_
    refine wl_p (fun _ => o_ge rfl rfl) ?_
    refine wl_nil ?_
    refine rk_if rfl (fun h => ?_) (fun h => ?_)
    · obtain ⟨q, rfl⟩ := Int.eq_ofNat_of_zero_le h
      obtain rfl : j = q + 1 := by omega
      refine rk_skip ?_
      refine rk_seq ?_
      refine rk_block ?_
      refine rk_region ?_
      refine wl_p (fun _ => o_move rfl) ?_
      refine wl_p (fun _ => o_move rfl) ?_
      refine wl_p (fun _ => o_move rfl) ?_
      refine wl_p (fun _ => o_mul rfl rfl (by omega) (by omega)) ?_
      refine wl_p (fun _ => o_convu64 (src := 3) (dst := 151) Tryz.underlying3 Tryz.underlying151 rfl (by omega) (by omega)) ?_
      refine wl_p (fun _ => o_shr rfl rfl (by omega)) ?_
      refine wl_p (fun _ => o_asi (o_convi Tryz.underlying52 Tryz.underlying5 rfl) (byte_shift n q (by omega))) ?_
      refine wl_v (o_lit (is := [0]) (xs := [.tmp 47]) rfl (Tryz.lit8 _ _)) ?_
      have hs2 := hb'.size
      refine wl_app (m := [UInt8.ofNat (n / 256 ^ q)]) Tryz.u8 rfl hln (hown'.alloc _) rfl rfl (rd_lit _ _ _ rfl) (by simp; omega) (by simp; omega) ?_
      intro A35 c35 w35 hown35 hg35 hk35 hb35
      refine wl_p (fun _ => o_assign rfl) ?_
      refine wl_nil ?_
      refine rk_blk ?_
      refine rk_region ?_
      refine wl_p (fun _ => o_move rfl) ?_
      refine wl_p (fun _ => o_sub rfl rfl (by omega) (by omega)) ?_
      refine wl_p (fun _ => o_assign rfl) ?_
      refine wl_nil ?_
      exact rk_again (m := q) (by repeat' constructor) ⟨A35, c35, _, _, _, rfl, rfl, rfl, by omega, by simpa [beB] using hl', hown35, (hb'.alloc (by omega) _).trans hb35⟩ (by omega)
    · obtain rfl : j = 0 := by omega
      refine rk_exit rfl ?_
      refine rk_seq ?_
      refine rk_region ?_
      refine wl_p (fun _ => o_move rfl) ?_
      refine wl_p (fun _ => o_assign rfl) ?_
      refine wl_nil ?_
      refine ret1 rfl rfl ?_
      simp only [beB, List.append_nil] at hl'
      subst hl'
      exact ⟨A', c', by rw [hln], hown', hb'⟩
  · have hs10 := hb.size
    refine rk_if rfl (fun h => ?_) (fun h => ?_)
    · refine rk_region ?_
      refine wl_p (fun _ => o_move rfl) ?_
      refine wl_v (o_lit (is := [0]) (xs := [.const (.int .u8 255)]) rfl (Tryz.lit8 _ _)) ?_
      have e9 : room n = 9 := by omega
      refine wl_app (m := [first (room n) n]) Tryz.u8 rfl rfl (hown10.alloc _) rfl rfl (rd_lit _ _ _ ?_) (by simp; omega) (by simp; omega) ?_
      · have h9 : n / 256 ^ 8 = 0 := Nat.div_eq_of_lt (by simpa using hn)
        rw [e9]; unfold first; rw [h9]; rfl
      intro A35 c35 w35 hown35 hg35 hk35 hb35
      refine wl_p (fun _ => o_assign rfl) ?_
      refine wl_nil ?_
      exact rk_to hj (by repeat' constructor) ⟨A35, c35, _, rfl, rfl, hown35, (hb.alloc (by omega) _).trans hb35⟩
    · refine rk_region ?_
      refine wl_p (fun _ => o_move rfl) ?_
      refine wl_p (fun _ => o_move rfl) ?_
      refine wl_p (fun _ => o_sub rfl rfl (by omega) (by omega)) ?_
      refine wl_p (fun _ => o_convu64 (src := 3) (dst := 151) Tryz.underlying3 Tryz.underlying151 rfl (by omega) (by omega)) ?_
      refine wl_p (fun _ => o_shl rfl rfl (by omega)) ?_
      refine wl_p (fun _ => o_subw rfl rfl) ?_
      refine wl_p (fun _ => o_convi (src := 52) (dst := 5) Tryz.underlying52 Tryz.underlying5 rfl) ?_
      refine wl_p (fun _ => o_move rfl) ?_
      refine wl_p (fun _ => o_move rfl) ?_
      refine wl_p (fun _ => o_sub rfl rfl (by omega) (by omega)) ?_
      refine wl_p (fun _ => o_mul rfl rfl (by omega) (by omega)) ?_
      refine wl_p (fun _ => o_convu64 (src := 3) (dst := 151) Tryz.underlying3 Tryz.underlying151 rfl (by omega) (by omega)) ?_
      refine wl_p (fun _ => o_shr rfl rfl (by omega)) ?_
      refine wl_p (fun _ => o_convi (src := 52) (dst := 5) Tryz.underlying52 Tryz.underlying5 rfl) ?_
      refine wl_p (fun _ => o_asi (o_addw rfl rfl) (ref_byte n hn)) ?_
      refine wl_v (o_lit (is := [0]) (xs := [.tmp 32]) rfl (Tryz.lit8 _ _)) ?_
      refine wl_app (m := [first (room n) n]) Tryz.u8 rfl rfl (hown10.alloc _) rfl rfl (rd_lit _ _ _ rfl) (by simp; omega) (by simp; omega) ?_
      intro A35 c35 w35 hown35 hg35 hk35 hb35
      refine wl_p (fun _ => o_assign rfl) ?_
      refine wl_nil ?_
      exact rk_to hj (by repeat' constructor) ⟨A35, c35, _, rfl, rfl, hown35, (hb.alloc (by omega) _).trans hb35⟩

theorem C_refBlock {A X : Option Addr} {l p : List UInt8} (c k : Nat) (w : World) (hr : Rd w A l) (hp : Rd w X p) (hl : l.length + p.length ≤ 140737488355000) :
    CallsR Tryz.prog 81 [.slice A l.length c, .slice X p.length k] w fun v w' => ∃ A' c', v = .slice A' (l ++ enc p.length ++ p).length c' ∧ Own w' w.heap.size A' c' (l ++ enc p.length ++ p) ∧ Below w.heap.size w w' := by
  have hk := room_pos p.length
  have hn : p.length < u64 := by unfold u64; omega
  refine callsR Tryz.func81 rfl rfl (by kernel_rfl) rfl ?_
  refine rk_seq ?_
  refine rk_region ?_
  refine wl_p (fun _ => o_assign rfl) ?_
  refine wl_nil ?_
  refine rk_seq ?_
  refine rk_region ?_
  refine wl_p (fun _ => o_move rfl) ?_
  refine wl_p (fun _ => o_move rfl) ?_
  refine wl_p (fun _ => o_len (t := 35) Tryz.underlying35 rfl) ?_
  refine wl_p (fun _ => o_convu64 (src := 3) (dst := 52) Tryz.underlying3 Tryz.underlying52 rfl (by omega) (by omega)) ?_
  refine wl_call rfl (C_refNumber c p.length w hr hn (by omega)) ?_
  rintro _ w3 ⟨A3, c3, rfl, hown3, hb3⟩
  refine wl_p (fun _ => o_move rfl) ?_
  refine wl_app Tryz.u8 rfl rfl hown3 rfl rfl (hp.below hb3) (by simp [enc_length]; omega) hb3.size ?_
  intro A4 c4 w4 hown4 hg4 hk4 hb4
  refine wl_p (fun _ => o_assign rfl) ?_
  refine wl_nil ?_
  refine ret1 rfl rfl ?_
  exact ⟨A4, c4, rfl, hown4, hb3.trans hb4⟩

end Go.Proofs.YtnnhenafhalobaaGreat
/-
  Walks of the document's answer for chapter 8: First, Check, Next, Bytes, Size.
-/
namespace Go.Proofs.YtnnhenafhalobaaGreat
set_option maxRecDepth 100000
open Go.RowKit
theorem C_r1BlockH {A X : Option Addr} {l p : By} {n m c k : Nat} (w : World) (hr : Rd w A l) (hp : Rd w X p) (hn : n = l.length) (hm : m = p.length) (hl : l.length ≤ 4000000) (hl2 : p.length ≤ 4000000) :
    CallsR Tryz.prog 81 [.slice A n c, .slice X m k] w fun v w' => ∃ A' c', v = .slice A' (l ++ blkB p).length c' ∧ OwnH w' w.heap.size w'.heap.size A' c' (l ++ blkB p) ∧ Below w.heap.size w w' := by
  subst hn; subst hm
  refine CallsR.mono (C_refBlock c k w hr hp (by omega)) ?_
  rintro v w' ⟨A', c', rfl, h1, h2⟩
  rw [List.append_assoc] at h1 ⊢
  exact ⟨A', c', rfl, h1.h_, h2⟩
theorem C_r8CheckY {k : UInt8} {x : Int} {A : Option Addr} {p : By} {n c : Nat} (w : World) (hk : x = (k.toNat : Int)) (hO : OkR (k, p)) (hn : n = p.length) :
    CallsR Tryz.prog 79 [.agg #[.int .u8 x, .slice A n c]] w fun v w' => v = .int .i64 0 ∧ Below w.heap.size w w' := by
  subst hn; subst hk
  have h1 : (k.toNat : Int) ≠ 0 := fun e => hO.1 (UInt8.toNat_inj.1 (by simpa using e))
  have h2 : p.length ≤ 8192 := hO.2
  refine callsR Tryz.func79 rfl rfl (by kernel_rfl) rfl ?_
  have hw := Below.refl w.heap.size w
  refine rk_seq ?_
  refine rk_region ?_
  refine wl_boxg [_, _] rfl (by rfl) ?_
  rintro g1 w1 f1 b1 i1 i1_1
  have s1 := b1.size
  replace hw := hw.trans (b1.mono hw.size)
  refine wl_p (fun _ => o_assign rfl) ?_
  refine wl_nil ?_
  refine rk_seq ?_
  refine rk_seq ?_
  refine rk_region ?_
  refine wl_p (fun _ => o_faddr (s := 37) (i := 0) (off := 0) Tryz.underlying37 rfl Tryz.sizeOf5 rfl rfl rfl) ?_
  refine wl_r (o_loadbg Tryz.isAgg5 rfl f1 (by rfl)) ?_
  refine wl_p (fun _ => o_eq rfl rfl) ?_
  refine wl_p (fun _ => o_move rfl) ?_
  refine wl_know 6 false rfl (decide_eq_false (by omega)) ?_
  refine wl_p (fun _ => o_faddr (s := 37) (i := 1) (off := 1) Tryz.underlying37 rfl Tryz.sizeOf35 rfl rfl rfl) ?_
  refine wl_r (o_loadbg Tryz.isAgg35 rfl f1 (by rfl)) ?_
  refine wl_p (fun _ => o_len (t := 35) Tryz.underlying35 rfl) ?_
  refine wl_p (fun _ => o_gt rfl rfl) ?_
  refine wl_p (fun _ => o_pick_f rfl rfl) ?_
  refine wl_nil ?_
  refine rk_if rfl (fun h11 => absurd h11 (by omega)) (fun h11 => ?_)
  refine rk_skip ?_
  refine rk_seq ?_
  refine rk_region ?_
  refine wl_p (fun _ => o_assign rfl) ?_
  refine wl_nil ?_
  refine ret1 rfl rfl ?_
  exact ⟨rfl, hw⟩
theorem C_r8CheckN {k : UInt8} {x : Int} {A : Option Addr} {p : By} {n c : Nat} (w : World) (hk : x = (k.toNat : Int)) (hO : ¬OkR (k, p)) (hn : n = p.length) :
    CallsR Tryz.prog 79 [.agg #[.int .u8 x, .slice A n c]] w fun v w' => v = .int .i64 2 ∧ Below w.heap.size w w' := by
  subst hn; subst hk
  by_cases h0 : k = 0
  · subst h0
    refine callsR Tryz.func79 rfl rfl (by kernel_rfl) rfl ?_
    have hw := Below.refl w.heap.size w
    refine rk_seq ?_
    refine rk_region ?_
    refine wl_boxg [_, _] rfl (by rfl) ?_
    rintro g1 w1 f1 b1 i1 i1_1
    have s1 := b1.size
    replace hw := hw.trans (b1.mono hw.size)
    refine wl_p (fun _ => o_assign rfl) ?_
    refine wl_nil ?_
    refine rk_seq ?_
    refine rk_seq ?_
    refine rk_region ?_
    refine wl_p (fun _ => o_faddr (s := 37) (i := 0) (off := 0) Tryz.underlying37 rfl Tryz.sizeOf5 rfl rfl rfl) ?_
    refine wl_r (o_loadbg Tryz.isAgg5 rfl f1 (by rfl)) ?_
    refine wl_p (fun _ => o_eq rfl rfl) ?_
    refine wl_p (fun _ => o_move rfl) ?_
    refine wl_off ?_
    refine wl_off ?_
    refine wl_off ?_
    refine wl_off ?_
    refine wl_p (fun _ => o_pick_t rfl rfl) ?_
    refine wl_nil ?_
    refine rk_true rfl ?_
    refine rk_seq ?_
    refine rk_region ?_
    refine wl_p (fun _ => o_assign rfl) ?_
    refine wl_nil ?_
    refine ret1 rfl rfl ?_
    exact ⟨rfl, hw⟩
  · have h1 : (k.toNat : Int) ≠ 0 := fun e => h0 (UInt8.toNat_inj.1 (by simpa using e))
    have h2 : ¬p.length ≤ 8192 := fun h => hO ⟨h0, h⟩
    refine callsR Tryz.func79 rfl rfl (by kernel_rfl) rfl ?_
    have hw := Below.refl w.heap.size w
    refine rk_seq ?_
    refine rk_region ?_
    refine wl_boxg [_, _] rfl (by rfl) ?_
    rintro g1 w1 f1 b1 i1 i1_1
    have s1 := b1.size
    replace hw := hw.trans (b1.mono hw.size)
    refine wl_p (fun _ => o_assign rfl) ?_
    refine wl_nil ?_
    refine rk_seq ?_
    refine rk_seq ?_
    refine rk_region ?_
    refine wl_p (fun _ => o_faddr (s := 37) (i := 0) (off := 0) Tryz.underlying37 rfl Tryz.sizeOf5 rfl rfl rfl) ?_
    refine wl_r (o_loadbg Tryz.isAgg5 rfl f1 (by rfl)) ?_
    refine wl_p (fun _ => o_eq rfl rfl) ?_
    refine wl_p (fun _ => o_move rfl) ?_
    refine wl_know 6 false rfl (decide_eq_false (by omega)) ?_
    refine wl_p (fun _ => o_faddr (s := 37) (i := 1) (off := 1) Tryz.underlying37 rfl Tryz.sizeOf35 rfl rfl rfl) ?_
    refine wl_r (o_loadbg Tryz.isAgg35 rfl f1 (by rfl)) ?_
    refine wl_p (fun _ => o_len (t := 35) Tryz.underlying35 rfl) ?_
    refine wl_p (fun _ => o_gt rfl rfl) ?_
    refine wl_p (fun _ => o_pick_f rfl rfl) ?_
    refine wl_nil ?_
    refine rk_if rfl (fun h11 => ?_) (fun h11 => h11.elim (by omega))
    refine rk_seq ?_
    refine rk_region ?_
    refine wl_p (fun _ => o_assign rfl) ?_
    refine wl_nil ?_
    refine ret1 rfl rfl ?_
    exact ⟨rfl, hw⟩
theorem C_r8Next {k : UInt8} {x : Int} {A : Option Addr} {p d r : By} {n c : Nat} (w : World) (hk : x = (k.toNat : Int)) (hp : Rd w A p) (hn : n = p.length) (hl : p.length ≤ 3500) (hd : d.length = 32) (hr : nextB d (k, p) = r) :
    CallsR Tryz.prog 80 [.agg (B8 d).toArray, .agg #[.int .u8 x, .slice A n c]] w fun v w' => v = .agg (B8 r).toArray ∧ Below w.heap.size w w' := by
  subst hn; subst hk
  have h32 : r.length = 32 := by rw [← hr, nextB, sumB_len]
  obtain ⟨bd, hbd⟩ : ∃ bd, [k] ++ blkB p = bd := ⟨_, rfl⟩
  have hbl : bd.length ≤ 3510 := by rw [← hbd]; exact bodyB_le (r := (k, p)) hl
  have hL2 : ∀ x ∈ [d, bd], x.length ≤ 4000 := by
    intro x hx
    rcases List.mem_cons.1 hx with rfl | hx
    · omega
    · obtain rfl := List.mem_singleton.1 hx; omega
  unfold nextB sumB at hr
  rw [show bodyB (k, p) = bd from hbd] at hr
  refine callsR Tryz.func80 rfl rfl (by kernel_rfl) rfl ?_
  have hw := Below.refl w.heap.size w
  refine rk_seq ?_
  refine rk_region ?_
  refine wl_boxg _ rfl (by rfl) ?_
  rintro g2 w2 f2 b2 i2 i2_1
  have s2 := b2.size
  replace hw := hw.trans (b2.mono hw.size)
  refine wl_boxg [_, _] rfl (by rfl) ?_
  rintro g3 w3 f3 b3 i3 i3_1
  have s3 := b3.size
  replace hw := hw.trans (b3.mono hw.size)
  replace f2 := f2.u b3
  refine wl_allocB Tryz.underlying64 Tryz.zeroValue64 (by rfl) ?_
  rintro g4 w4 f4 b4 i4 i4_1
  have s4 := b4.size
  replace hw := hw.trans (b4.mono hw.size)
  replace f2 := f2.u b4
  replace f3 := f3.u b4
  refine wl_nil ?_
  refine rk_seq ?_
  refine rk_drawo (id := 1) (none) [0, 0, 2, 4, 0, 16, 40, 65, 192, 511] [0, 0, 2, 6, 0, 16, 62, 127, 255, 511] 968 8 [0, 1, 2, 4, 5, 3, 6, 7, 8, 9] [(.p, 0), (.p, 1), (.r, 2), (.p, 4), (.s, 5), (.c, 3), (.l, 6), (.l, 7), (.l, 8), (.l, 9)] (by kernel_rfl) (by kernel_rfl) (by kernel_rfl) (by kernel_rfl) (by kernel_rfl) ?_
  dsimp only [inOrder, nthOp]
  replace hw := hw.drew
  replace f3 := f3.d
  replace f2 := f2.d
  replace f4 := f4.d
  refine wl_p (fun _ => o_slice_arr (t := 64) Tryz.underlying64 Tryz.sizeOf5 rfl) ?_
  refine wl_p (fun _ => o_faddr (s := 37) (i := 0) (off := 0) Tryz.underlying37 rfl Tryz.sizeOf5 rfl rfl rfl) ?_
  refine wl_r (o_loadbg Tryz.isAgg5 rfl f3 (by rfl)) ?_
  refine wl_p (fun _ => o_faddr (s := 37) (i := 1) (off := 1) Tryz.underlying37 rfl Tryz.sizeOf35 rfl rfl rfl) ?_
  refine wl_s (fun _ hk => (o_loadbg Tryz.isAgg35 rfl (f3.u (below_of_grown_none hk)) (by rfl))) ?_
  refine wl_litB [k] Tryz.u8 Tryz.sizeOf5 Tryz.zeroValue5 (by rfl) rfl rfl (by rfl) (by rfl) (by rfl) ?_
  rintro A8 w8 f8 b8
  simp only [drew_size] at f8
  simp only [drew_size] at b8
  have qf8 := f8.cap
  have s8 := b8.size
  simp only [drew_size] at s8
  replace hw := hw.trans (b8.mono hw.size)
  replace f4 := f4.u b8
  replace f2 := f2.u b8
  replace f3 := f3.u b8
  refine wl_call rfl (C_r1BlockH _ f8.to_Rd (hp.u hw) (by rfl) rfl (by omega) (by omega)) ?_
  rintro v11 w11 ⟨A11, ⟨c11, ⟨rfl, ⟨f11, b11⟩⟩⟩⟩
  have qf11 := f11.cap
  have s11 := b11.size
  replace hw := hw.trans (b11.mono hw.size)
  replace f3 := f3.u b11
  replace f2 := f2.u b11
  replace f4 := f4.u b11
  replace f8 := f8.u b11
  refine wl_litKr2 (by rfl) rfl f2.to_Rd f11.to_Rd (by omega) rfl (by omega) (by omega) (by omega) (own_max' (by assumption)) (by rfl) ?_
  rintro A12 w12 f12 b12
  have s12 := b12.size
  replace hw := hw.trans (b12.mono hw.size)
  replace f8 := f8.u b12
  replace f4 := f4.u b12
  replace f2 := f2.u b12
  replace f3 := f3.u b12
  replace f11 := f11.u b12
  rw [hbd] at f12
  refine wl_call rfl (C_refSum _ f12 hr (by rfl) (by simp) (by omega)) ?_
  rintro v13 w13 ⟨rfl, b13⟩
  have s13 := b13.size
  replace hw := hw.trans (b13.mono hw.size)
  replace f11 := f11.u b13
  replace f3 := f3.u b13
  replace f2 := f2.u b13
  replace f4 := f4.u b13
  replace f8 := f8.u b13
  replace f12 := f12.u b13
  refine wl_stBa Tryz.sizeOf64 rfl f4 rfl h32 (by rfl) ?_
  rintro w_1 f g e
  have s := g.size
  replace hw := hw.trans (below_of_grownBy g.g hw.size (by omega))
  replace f8 := f8.k g.g (ap_some (by omega))
  replace f2 := f2.k g.g (ap_some (by omega))
  replace f3 := f3.k g.g (ap_some (by omega))
  replace f11 := f11.k g.g (ap_some (by omega))
  clear f12
  clear f4
  refine wl_nild ?_
  refine ret_cell rfl rfl Tryz.isAgg64 Tryz.sizeOf64 f (by rw [B8_length, h32]) ?_
  exact ⟨rfl, hw⟩
theorem C_r8BytesOk {k : UInt8} {x : Int} {A : Option Addr} {p d bs r : By} {n c : Nat} (w : World) (hk : x = (k.toNat : Int)) (hp : Rd w A p) (hO : OkR (k, p)) (hb : bytesR d (k, p) = bs) (hr : nextB d (k, p) = r) (hn : n = p.length) (hl : p.length ≤ 3500) (hd : d.length = 32) :
    CallsR Tryz.prog 49 [.agg (B8 d).toArray, .agg #[.int .u8 x, .slice A n c]] w fun v w' => ∃ (A' : Option Addr) (c' : Nat), v = .tuple #[.slice A' bs.length c', .agg (B8 r).toArray, .int .i64 0] ∧ OwnH w' w.heap.size w'.heap.size A' c' bs ∧ Below w.heap.size w w' := by
  subst hn; subst hk
  have h32 : r.length = 32 := by rw [← hr, nextB, sumB_len]
  have hbl := bodyB_le (r := (k, p)) hl
  have h8 : (r.take 8).length = 8 := by rw [List.length_take]; omega
  have hbs : [k] ++ blkB p ++ r.take 8 = bs := by rw [← hb, bytesR, hr]; rfl
  have hbb : ([k] ++ blkB p).length ≤ 3510 := hbl
  refine callsR Tryz.func49 rfl rfl (by kernel_rfl) rfl ?_
  have hw := Below.refl w.heap.size w
  refine rk_seq ?_
  refine rk_region ?_
  refine wl_boxg _ rfl (by rfl) ?_
  rintro g2 w2 f2 b2 i2 i2_1
  have s2 := b2.size
  replace hw := hw.trans (b2.mono hw.size)
  refine wl_boxg [_, _] rfl (by rfl) ?_
  rintro g3 w3 f3 b3 i3 i3_1
  have s3 := b3.size
  replace hw := hw.trans (b3.mono hw.size)
  replace f2 := f2.u b3
  refine wl_p (fun _ => o_assign rfl) ?_
  refine wl_allocB Tryz.underlying64 Tryz.zeroValue64 (by rfl) ?_
  rintro g5 w5 f5 b5 i5 i5_1
  have s5 := b5.size
  replace hw := hw.trans (b5.mono hw.size)
  replace f2 := f2.u b5
  replace f3 := f3.u b5
  refine wl_p (fun _ => o_assign rfl) ?_
  refine wl_nil ?_
  refine rk_seq ?_
  refine rk_seq ?_
  refine rk_region ?_
  refine wl_r (o_loadag Tryz.isAgg37 Tryz.sizeOf37 rfl f3 (by rfl)) ?_
  refine wl_call rfl (C_r8CheckY _ (by rfl) hO rfl) ?_
  rintro v9 w9 ⟨rfl, b9⟩
  have s9 := b9.size
  replace hw := hw.trans (b9.mono hw.size)
  replace f3 := f3.u b9
  replace f2 := f2.u b9
  replace f5 := f5.u b9
  refine wl_p (fun _ => o_ne rfl rfl) ?_
  refine wl_nil ?_
  refine rk_false rfl ?_
  refine rk_skip ?_
  refine rk_seq ?_
  refine rk_region ?_
  refine wl_r (o_ldBa Tryz.isAgg64 Tryz.sizeOf64 rfl f2 hd) ?_
  refine wl_r (o_loadag Tryz.isAgg37 Tryz.sizeOf37 rfl f3 (by rfl)) ?_
  refine wl_call rfl (C_r8Next _ (by rfl) (hp.u hw) rfl (by omega) hd hr) ?_
  rintro v14 w14 ⟨rfl, b14⟩
  have s14 := b14.size
  replace hw := hw.trans (b14.mono hw.size)
  replace f5 := f5.u b14
  replace f2 := f2.u b14
  replace f3 := f3.u b14
  refine wl_allocB Tryz.underlying64 Tryz.zeroValue64 (by rfl) ?_
  rintro g7 w7 f7 b7 i7 i7_1
  have s7 := b7.size
  replace hw := hw.trans (b7.mono hw.size)
  replace f3 := f3.u b7
  replace f2 := f2.u b7
  replace f5 := f5.u b7
  refine wl_stBa Tryz.sizeOf64 rfl f7 rfl h32 (by rfl) ?_
  rintro w_1 f g e
  have s := g.size
  replace hw := hw.trans (below_of_grownBy g.g hw.size (by omega))
  replace f5 := f5.k g.g (ap_some (by omega))
  replace f2 := f2.k g.g (ap_some (by omega))
  replace f3 := f3.k g.g (ap_some (by omega))
  clear f7
  refine wl_nil ?_
  refine rk_seq ?_
  refine rk_drawoB (id := 4) (none) [0, 1, 2, 0, 8, 20, 0, 96, 0, 255, 1023, 2047] [0, 1, 3, 0, 8, 31, 0, 127, 0, 255, 1023, 2047] 1188 164 [0, 1, 3, 4, 6, 8, 2, 5, 7, 9, 10, 11] [(.p, 0), (.r, 1), (.p, 3), (.s, 4), (.p, 6), (.s, 8), (.c, 2), (.c, 5), (.c, 7), (.p, 9), (.l, 10), (.p, 11)] (by kernel_rfl) (by kernel_rfl) (by kernel_rfl) (by kernel_rfl) (by kernel_rfl) ?_
  dsimp only [inOrder, nthOp]
  replace hw := hw.drew
  replace f3 := f3.d
  replace f2 := f2.d
  replace f5 := f5.d
  replace f := f.d
  refine wl_p (fun _ => o_faddr (s := 37) (i := 0) (off := 0) Tryz.underlying37 rfl Tryz.sizeOf5 rfl rfl rfl) ?_
  refine wl_r (o_loadbg Tryz.isAgg5 rfl f3 (by rfl)) ?_
  refine wl_p (fun _ => o_faddr (s := 37) (i := 1) (off := 1) Tryz.underlying37 rfl Tryz.sizeOf35 rfl rfl rfl) ?_
  refine wl_s (fun _ hk => (o_loadbg Tryz.isAgg35 rfl (f3.u (below_of_ok hk (Nat.le_refl _) (fun _ e => by cases e))) (by rfl))) ?_
  refine wl_p (fun _ => (o_slArrHi (8) Tryz.underlying64 Tryz.sizeOf5 rfl rfl (by omega) (by omega))) ?_
  refine wl_s (fun _ hk => (o_ldBa Tryz.isAgg64 Tryz.sizeOf64 rfl (f.u (below_of_ok hk (Nat.le_refl _) (fun _ e => by cases e))) h32)) ?_
  refine wl_litB [k] Tryz.u8 Tryz.sizeOf5 Tryz.zeroValue5 (by rfl) rfl rfl (by rfl) (by rfl) (by rfl) ?_
  rintro A17 w17 f17 b17
  simp only [drew_size] at f17
  simp only [drew_size] at b17
  have qf17 := f17.cap
  have s17 := b17.size
  simp only [drew_size] at s17
  replace hw := hw.trans (b17.mono hw.size)
  replace f := f.u b17
  replace f5 := f5.u b17
  replace f2 := f2.u b17
  replace f3 := f3.u b17
  refine wl_call rfl (C_r1BlockH _ f17.to_Rd (hp.u hw) (by rfl) rfl (by omega) (by omega)) ?_ (hq := .inr fun _ _ h => grown_of_below h.choose_spec.choose_spec.2.2 _)
  rintro v20 w20 ⟨A20, ⟨c20, ⟨rfl, ⟨f20, b20⟩⟩⟩⟩
  have qf20 := f20.cap
  have s20 := b20.size
  replace hw := hw.trans (b20.mono hw.size)
  replace f3 := f3.u b20
  replace f2 := f2.u b20
  replace f5 := f5.u b20
  replace f := f.u b20
  replace f17 := f17.u b20
  have hr8 := rd_pre f 8
  refine wl_appBm Tryz.u8 rfl f20 rfl rfl hr8 (by omega) (by omega) (by have := hw.size; omega) ?_ (hq := .inr (.inr fun k e => by have := (RowH.lt f20 k e).1; omega))
  rintro A22 c22 w22 f22 g22 b22
  rw [hbs] at f22
  rw [hbs]
  replace f := f.k g22.g (fun j e => by have := (RowH.lt f20 j e).1; omega)
  replace f5 := f5.k g22.g (fun j e => by have := (RowH.lt f20 j e).1; omega)
  replace hw := hw.trans (g22.below hw.size (fun j e => by have := (RowH.lt f20 j e).1; omega))
  clear f20 f17 f2 f3 hr8 hp b22
  refine wl_p (fun _ => o_assign rfl) ?_
  refine wl_stBa Tryz.sizeOf64 rfl f5 rfl h32 (by rfl) ?_
  rintro w_2 f_1 g_1 e_1
  have s_1 := g_1.size
  replace hw := hw.trans (below_of_grownBy g_1.g hw.size (by omega))
  replace f := f.k g_1.g (ap_some (by omega))
  replace f22 := f22.k g_1.g (ap_some (by omega))
  clear f5
  refine wl_p (fun _ => o_assign rfl) ?_
  refine wl_nild ?_
  refine ret_any (vs := [.slice A22 bs.length c22, .agg (B8 r).toArray, .int .i64 0]) rfl (.tmp rfl (.cell rfl Tryz.isAgg64 Tryz.sizeOf64 f_1 (by rw [B8_length, h32]) (.tmp rfl .nil))) (by simp) ?_
  exact ⟨A22, c22, rfl, f22.top.base (by omega) (Nat.le_refl _), hw⟩
theorem C_r8BytesBad {k : UInt8} {x : Int} {A : Option Addr} {p d : By} {n c : Nat} (w : World) (hk : x = (k.toNat : Int)) (hO : ¬OkR (k, p)) (hn : n = p.length) :
    CallsR Tryz.prog 49 [.agg (B8 d).toArray, .agg #[.int .u8 x, .slice A n c]] w fun v w' => v = .tuple #[.slice none 0 0, .agg (B8 nul32).toArray, .int .i64 2] ∧ Below w.heap.size w w' := by
  subst hn; subst hk
  refine callsR Tryz.func49 rfl rfl (by kernel_rfl) rfl ?_
  have hw := Below.refl w.heap.size w
  refine rk_seq ?_
  refine rk_region ?_
  refine wl_boxg _ rfl (by rfl) ?_
  rintro g2 w2 f2 b2 i2 i2_1
  have s2 := b2.size
  replace hw := hw.trans (b2.mono hw.size)
  refine wl_boxg [_, _] rfl (by rfl) ?_
  rintro g3 w3 f3 b3 i3 i3_1
  have s3 := b3.size
  replace hw := hw.trans (b3.mono hw.size)
  replace f2 := f2.u b3
  refine wl_p (fun _ => o_assign rfl) ?_
  refine wl_allocB Tryz.underlying64 Tryz.zeroValue64 (by rfl) ?_
  rintro g5 w5 f5 b5 i5 i5_1
  have s5 := b5.size
  replace hw := hw.trans (b5.mono hw.size)
  replace f2 := f2.u b5
  replace f3 := f3.u b5
  refine wl_p (fun _ => o_assign rfl) ?_
  refine wl_nil ?_
  refine rk_seq ?_
  refine rk_seq ?_
  refine rk_region ?_
  refine wl_r (o_loadag Tryz.isAgg37 Tryz.sizeOf37 rfl f3 (by rfl)) ?_
  refine wl_call rfl (C_r8CheckN _ (by rfl) hO rfl) ?_
  rintro v9 w9 ⟨rfl, b9⟩
  have s9 := b9.size
  replace hw := hw.trans (b9.mono hw.size)
  replace f3 := f3.u b9
  replace f2 := f2.u b9
  replace f5 := f5.u b9
  refine wl_p (fun _ => o_ne rfl rfl) ?_
  refine wl_nil ?_
  refine rk_true rfl ?_
  refine rk_seq ?_
  refine rk_region ?_
  refine wl_p (fun _ => (o_buildD0)) ?_
  refine wl_p (fun _ => o_assign rfl) ?_
  refine wl_stBa Tryz.sizeOf64 rfl f5 rfl (by rfl) (by rfl) ?_
  rintro w_1 f g e
  have s := g.size
  replace hw := hw.trans (below_of_grownBy g.g hw.size (by omega))
  replace f2 := f2.k g.g (ap_some (by omega))
  replace f3 := f3.k g.g (ap_some (by omega))
  clear f5
  refine wl_p (fun _ => o_assign rfl) ?_
  refine wl_nil ?_
  refine ret_any rfl (.tmp rfl <| .cell rfl Tryz.isAgg64 Tryz.sizeOf64 (by assumption) rfl <| .tmp rfl <| .nil) (by simp) ?_
  exact ⟨rfl, hw⟩
theorem C_r8SizeY {k : UInt8} {x : Int} {A : Option Addr} {p : By} {n c z : Nat} (w : World) (hk : x = (k.toNat : Int)) (hp : Rd w A p) (hO : OkR (k, p)) (hz : (bodyB (k, p)).length + 8 = z) (hn : n = p.length) (hl : p.length ≤ 3500) :
    CallsR Tryz.prog 14 [.agg #[.int .u8 x, .slice A n c]] w fun v w' => v = .int .i64 (z : Int) ∧ Below w.heap.size w w' := by
  subst hk
  obtain ⟨bs, hbs⟩ : ∃ bs, bytesR nul32 (k, p) = bs := ⟨_, rfl⟩
  obtain ⟨r, hr⟩ : ∃ r, nextB nul32 (k, p) = r := ⟨_, rfl⟩
  have h32 : r.length = 32 := by rw [← hr, nextB, sumB_len]
  have hzl : bs.length = z := by rw [← hbs, bytesR_len, hz]
  refine callsR Tryz.func14 rfl rfl (by kernel_rfl) rfl ?_
  have hw := Below.refl w.heap.size w
  refine rk_seq ?_
  refine rk_region ?_
  refine wl_boxg [_, _] rfl (by rfl) ?_
  rintro g1 w1 f1 b1 i1 i1_1
  have s1 := b1.size
  replace hw := hw.trans (b1.mono hw.size)
  refine wl_p (fun _ => o_assign rfl) ?_
  refine wl_nil ?_
  refine rk_seq ?_
  refine rk_region ?_
  refine wl_p (fun _ => (o_buildD0)) ?_
  refine wl_r (o_loadag Tryz.isAgg37 Tryz.sizeOf37 rfl f1 (by rfl)) ?_
  refine wl_call rfl (C_r8BytesOk _ (by rfl) (hp.u hw) (by omega) hbs hr hn (by omega) (by rfl)) ?_
  rintro v9 w9 ⟨A9, ⟨c9, ⟨rfl, ⟨f9, b9⟩⟩⟩⟩
  have qf9 := f9.cap
  have s9 := b9.size
  replace hw := hw.trans (b9.mono hw.size)
  replace f1 := f1.u b9
  refine wl_p (fun _ => o_move rfl) ?_
  refine wl_p (fun _ => o_ext30 rfl) ?_
  refine wl_p (fun _ => o_ext31 rfl) ?_
  refine wl_p (fun _ => o_ext32 rfl) ?_
  refine wl_allocB Tryz.underlying64 Tryz.zeroValue64 (by rfl) ?_
  rintro g4 w4 f4 b4 i4 i4_1
  have s4 := b4.size
  replace hw := hw.trans (b4.mono hw.size)
  replace f1 := f1.u b4
  replace f9 := f9.u b4
  refine wl_p (fun _ => o_assign rfl) ?_
  refine wl_stBa Tryz.sizeOf64 rfl f4 rfl h32 (by rfl) ?_
  rintro w_1 f g e
  have s := g.size
  replace hw := hw.trans (below_of_grownBy g.g hw.size (by omega))
  replace f9 := f9.k g.g (ap_some (by omega))
  replace f1 := f1.k g.g (ap_some (by omega))
  clear f4
  refine wl_p (fun _ => o_assign rfl) ?_
  refine wl_nil ?_
  refine rk_seq ?_
  refine rk_region ?_
  refine wl_p (fun _ => o_move rfl) ?_
  refine wl_p (fun _ => o_len (t := 35) Tryz.underlying35 rfl) ?_
  refine wl_p (fun _ => o_assign rfl) ?_
  refine wl_nil ?_
  refine ret1 rfl rfl ?_
  exact ⟨congrArg (Value.int .i64) (by omega), hw⟩
theorem C_r8SizeN {k : UInt8} {x : Int} {A : Option Addr} {p : By} {n c : Nat} (w : World) (hk : x = (k.toNat : Int)) (hO : ¬OkR (k, p)) (hn : n = p.length) :
    CallsR Tryz.prog 14 [.agg #[.int .u8 x, .slice A n c]] w fun v w' => v = .int .i64 0 ∧ Below w.heap.size w w' := by
  subst hk
  refine callsR Tryz.func14 rfl rfl (by kernel_rfl) rfl ?_
  have hw := Below.refl w.heap.size w
  refine rk_seq ?_
  refine rk_region ?_
  refine wl_boxg [_, _] rfl (by rfl) ?_
  rintro g1 w1 f1 b1 i1 i1_1
  have s1 := b1.size
  replace hw := hw.trans (b1.mono hw.size)
  refine wl_p (fun _ => o_assign rfl) ?_
  refine wl_nil ?_
  refine rk_seq ?_
  refine rk_region ?_
  refine wl_p (fun _ => (o_buildD0)) ?_
  refine wl_r (o_loadag Tryz.isAgg37 Tryz.sizeOf37 rfl f1 (by rfl)) ?_
  refine wl_call rfl (C_r8BytesBad _ (by rfl) hO hn) ?_
  rintro v9 w9 ⟨rfl, b9⟩
  have s9 := b9.size
  replace hw := hw.trans (b9.mono hw.size)
  replace f1 := f1.u b9
  refine wl_p (fun _ => o_move rfl) ?_
  refine wl_p (fun _ => o_ext30 rfl) ?_
  refine wl_p (fun _ => o_ext31 rfl) ?_
  refine wl_p (fun _ => o_ext32 rfl) ?_
  refine wl_allocB Tryz.underlying64 Tryz.zeroValue64 (by rfl) ?_
  rintro g4 w4 f4 b4 i4 i4_1
  have s4 := b4.size
  replace hw := hw.trans (b4.mono hw.size)
  replace f1 := f1.u b4
  refine wl_p (fun _ => o_assign rfl) ?_
  refine wl_stBa Tryz.sizeOf64 rfl f4 rfl (by rfl) (by rfl) ?_
  rintro w_1 f g e
  have s := g.size
  replace hw := hw.trans (below_of_grownBy g.g hw.size (by omega))
  replace f1 := f1.k g.g (ap_some (by omega))
  clear f4
  refine wl_p (fun _ => o_assign rfl) ?_
  refine wl_nil ?_
  refine rk_seq ?_
  refine rk_region ?_
  refine wl_p (fun _ => o_move rfl) ?_
  refine wl_p (fun _ => o_len (t := 35) Tryz.underlying35 rfl) ?_
  refine wl_p (fun _ => o_assign rfl) ?_
  refine wl_nil ?_
  refine ret1 rfl rfl ?_
  exact ⟨rfl, hw⟩
end Go.Proofs.YtnnhenafhalobaaGreat
/-
  Walks: JournalRoom.
-/
namespace Go.Proofs.YtnnhenafhalobaaGreat
set_option maxRecDepth 100000
open Go.RowKit
--@ hide C_jOpenOk
--@ hide C_jOpenBad
--@ hide C_jsOpen
--@ hide K_jAppend
theorem szR_append : ∀ (R T : List Rc), szR (R ++ T) = szR R + szR T
  | [], T => by simp [szR]
  | r :: R, T => by
    have := szR_append R T
    simp only [List.cons_append, szR, this]
    omega
theorem szR_drop (R : List Rc) (k : Nat) : szR (R.drop k) ≤ szR R := by
  have h : ∀ (R : List Rc) (k : Nat), szR (R.drop k) ≤ szR R := by
    intro R
    induction R with
    | nil => intro k; simp
    | cons r R ih =>
      intro k
      cases k with
      | zero => simp
      | succ k => simp only [List.drop_succ_cons, szR]; have := ih k; omega
  exact h R k
set_option maxRecDepth 100000 in
set_option maxHeartbeats 4000000 in
theorem C_JournalRoom {a0 n0 : Int} {A1 : Option Addr} {L : List JAct} {c1 : Nat} (w : World) (hL : RJA w A1 L) (m1 : L.length ≤ maxLen) (w1 : (Lit.int .i64 a0).wf = true) (w2 : (Lit.int .i64 n0).wf = true) :
    CallsR Tryz.prog 3 [.int .i64 a0, .slice A1 L.length c1, .int .i64 n0] w fun v w' => v = .bool true ∧ Below w.heap.size w w' := by
  have wm : (Lit.int .i64 12).wf = true := by decide
  have hpk := pick_range a0 12 (by omega)
  obtain ⟨p, hp⟩ : ∃ p, pick a0 12 = p := ⟨_, rfl⟩
  rw [hp] at hpk
  obtain ⟨m, hm⟩ : ∃ m : Nat, 1 + p = (m : Int) := ⟨(1 + p).toNat, by omega⟩
  have hmb : 1 ≤ m ∧ m ≤ 12 := by omega
  have hm2 : 1 ≤ (m : Int) ∧ (m : Int) ≤ 256 := by omega
  obtain ⟨Z, hZ⟩ : ∃ Z : List Sec, List.replicate (2 + 2 * m) z256 = Z := ⟨_, rfl⟩
  obtain ⟨Q, hQ⟩ : ∃ Q : List (Option Sec), List.replicate (2 + 2 * m) none = Q := ⟨_, rfl⟩
  have hZl : Z.length = 2 + 2 * m := by rw [← hZ, List.length_replicate]
  have hQl : Q.length = 2 + 2 * m := by rw [← hQ, List.length_replicate]
  obtain ⟨S1, hS1⟩ : ∃ S1, fmS Z Q m = S1 := ⟨_, rfl⟩
  have hS1l : S1.length = 2 + 2 * m := by rw [← hS1, fmS_len, hZl]
  have hQ1 : List.replicate Z.length none = Q := by rw [hZl, hQ]
  have hh0 : (cur S1 Q)[0]? = some ⟨headB 0 m, headB_len 0 m⟩ := by
    have := fmS_0 (S := Z) (C := Q) (a := m) (by omega) (by omega)
    rwa [hS1, hQ1] at this
  have hz0 : szR ([] : List Rc) = 0 := rfl
  refine callsR Tryz.func3 rfl rfl (by kernel_rfl) rfl ?_
  have hw := Below.refl w.heap.size w
  refine rk_seq ?_
  refine rk_region ?_
  refine wl_p (fun _ => o_assign rfl) ?_
  refine wl_nil ?_
  refine rk_seq ?_
  refine rk_seq ?_
  refine rk_region ?_
  refine wl_call rfl (C_lives09 _) ?_
  rintro v21 w21 ⟨rfl, b21⟩
  have s21 := b21.size
  replace hw := hw.trans (b21.mono hw.size)
  refine wl_p (fun _ => o_not rfl) ?_
  refine wl_nil ?_
  refine rk_false rfl ?_
  refine rk_skip ?_
  refine rk_seq ?_
  refine rk_seq ?_
  refine rk_region ?_
  refine wl_p (fun _ => o_move rfl) ?_
  refine wl_call rfl (C_small09 _ (hL.u hw) rfl (by omega)) ?_
  rintro v24 w24 ⟨b24, ⟨rfl, ⟨i24, b24_1⟩⟩⟩
  have s24 := b24_1.size
  replace hw := hw.trans (b24_1.mono hw.size)
  refine wl_p (fun _ => o_not rfl) ?_
  refine wl_nil ?_
  cases b24 with
  | false =>
    refine rk_true rfl ?_
    refine rk_seq ?_
    refine rk_region ?_
    refine wl_p (fun _ => o_assign rfl) ?_
    refine wl_nil ?_
    refine ret1 rfl rfl ?_
    exact ⟨rfl, hw⟩
  | true =>
    have hs : smallJ L := (show true = true ↔ smallJ L by assumption).1 rfl
    refine rk_false rfl ?_
    refine rk_skip ?_
    refine rk_seq ?_
    refine rk_region ?_
    refine wl_p (fun _ => o_move rfl) ?_
    refine wl_call rfl (C_PickR _ hp w1 wm) ?_
    rintro v27 w27 ⟨rfl, b27⟩
    have s27 := b27.size
    replace hw := hw.trans (b27.mono hw.size)
    refine wl_p (fun _ => o_add rfl rfl (by omega) (by omega)) ?_
    refine wl_p (fun _ => o_assign rfl) ?_
    refine wl_nil ?_
    refine rk_seq ?_
    refine rk_region ?_
    refine wl_p (fun _ => o_move rfl) ?_
    refine wl_call rfl (C_jSectorsY _ (by omega)) ?_
    rintro v31 w31 ⟨rfl, rfl⟩
    rw [hm]
    refine wl_call rfl (C_dNewOk _ (by omega) hZ hQ (by omega) (by omega)) ?_
    rintro v32 w32 ⟨g32, ⟨rfl, ⟨f32, b32⟩⟩⟩
    have s32 := b32.size
    replace hw := hw.trans (b32.mono hw.size)
    refine wl_p (fun _ => o_move rfl) ?_
    refine wl_p (fun _ => o_ext20 rfl) ?_
    refine wl_p (fun _ => o_ext21 rfl) ?_
    refine wl_p (fun _ => o_assign rfl) ?_
    refine wl_p (fun _ => o_assign rfl) ?_
    refine wl_nil ?_
    refine rk_seq ?_
    refine rk_region ?_
    refine wl_p (fun _ => o_move rfl) ?_
    refine wl_p (fun _ => o_move rfl) ?_
    refine wl_call rfl (C_jsFormat _ f32 rfl hS1 hQ1 (by omega) (by omega)) ?_
    rintro v38 w38 ⟨g38, ⟨rfl, ⟨f38, ⟨i38, g38_1⟩⟩⟩⟩
    have s38 := g38_1.size
    replace hw := hw.trans (g38_1.below hw.size (by omega))
    clear f32
    refine wl_p (fun _ => o_move rfl) ?_
    refine wl_p (fun _ => o_ext20 rfl) ?_
    refine wl_p (fun _ => o_ext21 rfl) ?_
    refine wl_p (fun _ => o_assign rfl) ?_
    refine wl_p (fun _ => o_assign rfl) ?_
    refine wl_nil ?_
    refine rk_seq ?_
    refine rk_seq ?_
    refine rk_region ?_
    refine wl_p (fun _ => o_move rfl) ?_
    refine wl_p (fun _ => o_ne rfl rfl) ?_
    refine wl_p (fun _ => o_move rfl) ?_
    refine wl_p (fun _ => o_move rfl) ?_
    refine wl_call rfl (C_jsLeft _ f38 (by rfl)) ?_
    rintro v45 w45 ⟨rfl, b45⟩
    have s45 := b45.size
    replace hw := hw.trans (b45.mono hw.size)
    replace f38 := f38.u b45
    refine wl_p (fun _ => o_move rfl) ?_
    refine wl_p (fun _ => o_mul rfl rfl (by omega) (by omega)) ?_
    refine wl_p (fun _ => o_ne rfl rfl) ?_
    refine wl_p (fun _ => o_pick_f rfl rfl) ?_
    refine wl_nil ?_
    refine rk_if rfl (fun h49 => absurd h49 (by omega)) (fun h49 => ?_)
    refine rk_skip ?_
    refine rk_seq ?_
    refine rk_seq ?_
    refine rk_region ?_
    refine wl_p (fun _ => o_assign rfl) ?_
    refine wl_nil ?_
    refine rk_block ?_
    have hs31 : w.heap.size ≤ w31.heap.size := by omega
    have hsl := hs.1
    refine rk_joinf (fun fb fr V => ∃ (L' : Option Addr) (C : List (Option Sec)) (R : List Rc), fr = [] ++ fb.drop 1 ∧ JSt V w31.heap.size w32.heap.size g32 g38 L' S1 C m 0 R 0 ∧ (cur S1 C)[0]? = some ⟨headB 0 m, headB_len 0 m⟩ ∧ (∀ r ∈ R, r.2.length ≤ 700) ∧ Below w.heap.size w V) ?_ (fun ks hj => ?_)
    rotate_left
    · refine rk_loopf (fun fb k fr V => ∃ (i : Nat) (v : Int) (L' : Option Addr) (C : List (Option Sec)) (R : List Rc), fr = [(11, .int .i64 v)] ++ fb.drop 1 ∧ v = i ∧ i ≤ L.length ∧ k = L.length - i ∧ JSt V w31.heap.size w32.heap.size g32 g38 L' S1 C m 0 R 0 ∧ (cur S1 C)[0]? = some ⟨headB 0 m, headB_len 0 m⟩ ∧ (∀ r ∈ R, r.2.length ≤ 700) ∧ Below w.heap.size w V) (n := L.length) (Fr.le_of (by kernel_rfl) (by kernel_rfl) (by repeat' constructor)) ⟨0, _, none, Q, [], rfl, rfl, by omega, rfl, f38, hh0, by simp, hw⟩ ?_
      clear f38 hw
      rintro k fr V ⟨i, v, L', C, R, rfl, rfl, hi, rfl, fJ, hh, hR7, hw⟩
      have shw := hw.size
      have hCl := fJ.dk.len
      have hfit := fJ.fit
      first | refine rk_frame (by simp only [List.cons_append, List.nil_append, List.drop_succ_cons, List.drop_zero]; rfl) ?_ | refine wl_frame (by simp only [List.cons_append, List.nil_append, List.drop_succ_cons, List.drop_zero]; rfl) ?_
      by_cases hil : i < L.length
      · have hp7 := (hs.2 _ (List.getElem_mem hil)).1
        obtain ⟨lf, hlf⟩ : ∃ lf, m * 256 - szR R = lf := ⟨_, rfl⟩
        by_cases hO : OkR L[i].2.1
        · obtain ⟨z, hz⟩ : ∃ z, (bodyB L[i].2.1).length + 8 = z := ⟨_, rfl⟩
          by_cases hfull : m * 256 < szR R + z
          · refine rk_seq ?_
            refine rk_seq ?_
            refine rk_region ?_
            refine wl_p (fun _ => o_move rfl) ?_
            refine wl_p (fun _ => o_move rfl) ?_
            refine wl_p (fun _ => o_len (t := 22) Tryz.underlying22 rfl) ?_
            refine wl_p (fun _ => o_lt rfl rfl) ?_
            refine wl_nil ?_
            refine rk_if rfl (fun h53 => ?_) (fun h53 => h53.elim (by omega))
            refine rk_skip ?_
            refine rk_seq ?_
            refine rk_block ?_
            refine rk_seq ?_
            refine rk_region ?_
            refine wl_p (fun _ => o_move rfl) ?_
            refine wl_p (fun _ => o_move rfl) ?_
            refine wl_p (fun _ => (o_iaddrA (i) Tryz.underlying22 Tryz.sizeOf40 rfl rfl rfl (hL.some_ (by omega)) (by omega))) ?_
            refine wl_p (fun _ => (o_faddrR rfl Tryz.underlying40 (by rfl) Tryz.sizeOf37 (by rfl) (by rfl))) ?_
            refine wl_ldJRec rfl hL hw (by omega) ?_
            rintro A160 c160 f60 i60 i60_1
            refine wl_allocg [_, _] Tryz.zeroValue37 (by rfl) ?_
            rintro g12 w12 f12 b12 i12 i12_1
            have s12 := b12.size
            replace hw := hw.trans (b12.mono hw.size)
            replace fJ := fJ.u b12
            refine wl_storega Tryz.sizeOf37 rfl rfl (by rfl) (oneCell_of (by rfl)) f12 (by rfl) ?_
            rintro w_1 f g e
            have s := g.size
            replace hw := hw.trans (below_of_grownBy g.g hw.size (by omega))
            replace fJ := fJ.y g (by decide)
            clear f12
            refine wl_nil ?_
            refine rk_seq ?_
            refine rk_drawo (id := 14) (none) [0, 1, 0, 6, 11, 31] [0, 1, 0, 7, 15, 31] 10 2 [0, 2, 1, 3, 4, 5] [(.p, 0), (.s, 2), (.c, 1), (.l, 3), (.p, 4), (.p, 5)] (by kernel_rfl) (by kernel_rfl) (by kernel_rfl) (by kernel_rfl) (by kernel_rfl) ?_
            dsimp only [inOrder, nthOp]
            replace hw := hw.drew
            replace fJ := fJ.d
            replace f := f.d
            refine wl_p (fun _ => o_move rfl) ?_
            refine wl_s (fun _ hk => (o_loadag Tryz.isAgg37 Tryz.sizeOf37 rfl (f.u (below_of_grown_none hk)) (by rfl))) ?_
            refine wl_call rfl (C_jsLeft _ fJ hlf) ?_ (hq := .inr fun _ _ h => grown_of_below h.2 _)
            rintro v62 w62 ⟨rfl, b62⟩
            simp only [drew_size] at b62
            have s62 := b62.size
            simp only [drew_size] at s62
            replace hw := hw.trans (b62.mono hw.size)
            replace f := f.u b62
            replace fJ := fJ.u b62
            refine wl_call rfl (C_r8SizeY _ (by rfl) (f60.u hw) (by omega) hz rfl (by omega)) ?_
            rintro v64 w64 ⟨rfl, b64⟩
            have s64 := b64.size
            replace hw := hw.trans (b64.mono hw.size)
            replace fJ := fJ.u b64
            replace f := f.u b64
            refine wl_p (fun _ => o_assign rfl) ?_
            refine wl_p (fun _ => o_assign rfl) ?_
            refine wl_nild ?_
            refine rk_seq ?_
            refine rk_draw (id := 15) (none) [0, 0, 2, 0, 8, 16, 36, 97, 255] [0, 0, 2, 0, 8, 24, 62, 127, 255] 160 32 [(.p, 0), (.p, 1), (.s, 2), (.p, 3), (.r, 4), (.c, 5), (.p, 6), (.l, 7), (.p, 8)] (by kernel_rfl) (by kernel_rfl) (by kernel_rfl) (by kernel_rfl) (by kernel_rfl) ?_
            replace hw := hw.drew
            replace f := f.d
            replace fJ := fJ.d
            refine wl_p (fun _ => o_move rfl) ?_
            refine wl_p (fun _ => o_faddr (s := 37) (i := 0) (off := 0) Tryz.underlying37 rfl Tryz.sizeOf5 rfl rfl rfl) ?_
            refine wl_s (fun _ hk => (o_loadbg Tryz.isAgg5 rfl (f.u (below_of_grown_none hk)) (by rfl))) ?_
            refine wl_p (fun _ => o_faddr (s := 37) (i := 1) (off := 1) Tryz.underlying37 rfl Tryz.sizeOf35 rfl rfl rfl) ?_
            refine wl_r (o_loadbg Tryz.isAgg35 rfl f (by rfl)) ?_
            refine wl_call rfl (C_OwnB _ (f60.u hw) rfl (by omega)) ?_ (hq := .inr fun _ _ h => grown_of_below h.choose_spec.choose_spec.2.2 _)
            rintro v70 w70 ⟨A70, ⟨c70, ⟨rfl, ⟨f70, b70⟩⟩⟩⟩
            simp only [drew_size] at f70
            simp only [drew_size] at b70
            have qf70 := f70.cap
            have s70 := b70.size
            simp only [drew_size] at s70
            replace hw := hw.trans (b70.mono hw.size)
            replace fJ := fJ.u b70
            replace f := f.u b70
            refine wl_p (fun _ => (o_buildg [_, _] Tryz.underlying37 Tryz.zeroValue37 (by rfl) (by rfl) rfl (by rfl) (by rfl) (fun _ => by kernel_rfl))) ?_
            refine wl_call rfl (C_jsAppendFull (kd := L[i].2.1.1) (p := L[i].2.1.2) _ fJ f70.to_RdT.1 rfl rfl hO (by omega) (by rw [show (bodyB (L[i].2.1.1, L[i].2.1.2)).length + 8 = z from hz]; exact hfull)) ?_
            rintro _ w72 ⟨rfl, b72⟩
            have sb72 := b72.size
            replace hw := hw.trans (b72.mono hw.size)
            replace f := f.u b72
            replace fJ := fJ.u b72
            replace f70 := f70.u b72
            refine wl_p (fun _ => o_assign rfl) ?_
            refine wl_nild ?_
            refine rk_seq ?_
            refine rk_region ?_
            refine wl_p (fun _ => o_assign rfl) ?_
            refine wl_nil ?_
            refine rk_seq ?_
            refine rk_seq ?_
            refine rk_region ?_
            refine wl_p (fun _ => o_move rfl) ?_
            refine wl_p (fun _ => o_eq rfl rfl) ?_
            refine wl_nil ?_
            refine rk_if rfl (fun h74 => absurd h74 (by omega)) (fun h74 => ?_)
            refine rk_seq ?_
            refine rk_region ?_
            refine wl_p (fun _ => o_move rfl) ?_
            refine wl_p (fun _ => o_move rfl) ?_
            refine wl_p (fun _ => o_gt rfl rfl) ?_
            refine wl_nil ?_
            refine rk_if rfl (fun h77 => ?_) (fun h77 => h77.elim (by omega))
            refine rk_region ?_
            refine wl_p (fun _ => o_assign rfl) ?_
            refine wl_nil ?_
            refine rk_seq ?_
            refine rk_region ?_
            refine wl_p (fun _ => o_move rfl) ?_
            refine wl_p (fun _ => o_move rfl) ?_
            refine wl_p (fun _ => o_ne rfl rfl) ?_
            refine wl_p (fun _ => o_move rfl) ?_
            refine wl_p (fun _ => o_move rfl) ?_
            refine wl_call rfl (C_jsLeft _ fJ hlf) ?_
            rintro v86 w86 ⟨rfl, b86⟩
            have s86 := b86.size
            replace hw := hw.trans (b86.mono hw.size)
            replace f70 := f70.u b86
            replace fJ := fJ.u b86
            replace f := f.u b86
            refine wl_p (fun _ => o_move rfl) ?_
            refine wl_p (fun _ => o_ne rfl rfl) ?_
            refine wl_p (fun _ => o_pick_f rfl rfl) ?_
            refine wl_nil ?_
            refine rk_if rfl (fun h89 => absurd h89 (by omega)) (fun h89 => ?_)
            refine rk_skip ?_
            refine rk_blk ?_
            refine rk_region ?_
            refine wl_p (fun _ => o_move rfl) ?_
            refine wl_p (fun _ => o_add rfl rfl (by omega) (by omega)) ?_
            refine wl_p (fun _ => o_assign rfl) ?_
            refine wl_nil ?_
            exact rk_againf (Fr.le_of (by kernel_rfl) (by kernel_rfl) (by repeat' constructor)) ⟨i + 1, (i : Int) + 1, L', C, R, rfl, by omega, by omega, rfl, fJ, hh, hR7, hw⟩ (by omega)
          · obtain ⟨bs, hbs⟩ : ∃ bs, bytesR (chainAll (fstB 0) R) (L[i].2.1.1, L[i].2.1.2) = bs := ⟨_, rfl⟩
            have hbl : bs.length = z := by rw [← hbs, bytesR_len]; exact hz
            obtain ⟨C2, hC2⟩ : ∃ C2, appC S1 C m 0 (szR R) bs = C2 := ⟨_, rfl⟩
            have hh2 : (cur S1 C2)[0]? = some ⟨headB 0 m, headB_len 0 m⟩ := by rw [← hC2, appC_head hCl (by omega) (by omega) (by omega) (by omega)]; exact hh
            have hz2 : szR (R ++ [(L[i].2.1.1, L[i].2.1.2)]) = szR R + z := by rw [szR_append]; simp only [szR]; rw [show (bodyB (L[i].2.1.1, L[i].2.1.2)).length + 8 = z from hz]
            obtain ⟨lf2, hlf2⟩ : ∃ lf2, m * 256 - szR (R ++ [(L[i].2.1.1, L[i].2.1.2)]) = lf2 := ⟨_, rfl⟩
            have hR72 : ∀ r ∈ R ++ [(L[i].2.1.1, L[i].2.1.2)], r.2.length ≤ 700 := by
              intro r hr
              rcases List.mem_append.1 hr with hr | hr
              · exact hR7 r hr
              · rw [List.mem_singleton] at hr; rw [hr]; exact hp7
            refine rk_seq ?_
            refine rk_seq ?_
            refine rk_region ?_
            refine wl_p (fun _ => o_move rfl) ?_
            refine wl_p (fun _ => o_move rfl) ?_
            refine wl_p (fun _ => o_len (t := 22) Tryz.underlying22 rfl) ?_
            refine wl_p (fun _ => o_lt rfl rfl) ?_
            refine wl_nil ?_
            refine rk_if rfl (fun h53 => ?_) (fun h53 => h53.elim (by omega))
            refine rk_skip ?_
            refine rk_seq ?_
            refine rk_block ?_
            refine rk_seq ?_
            refine rk_region ?_
            refine wl_p (fun _ => o_move rfl) ?_
            refine wl_p (fun _ => o_move rfl) ?_
            refine wl_p (fun _ => (o_iaddrA (i) Tryz.underlying22 Tryz.sizeOf40 rfl rfl rfl (hL.some_ (by omega)) (by omega))) ?_
            refine wl_p (fun _ => (o_faddrR rfl Tryz.underlying40 (by rfl) Tryz.sizeOf37 (by rfl) (by rfl))) ?_
            refine wl_ldJRec rfl hL hw (by omega) ?_
            rintro A160 c160 f60 i60 i60_1
            refine wl_allocg [_, _] Tryz.zeroValue37 (by rfl) ?_
            rintro g12 w12 f12 b12 i12 i12_1
            have s12 := b12.size
            replace hw := hw.trans (b12.mono hw.size)
            replace fJ := fJ.u b12
            refine wl_storega Tryz.sizeOf37 rfl rfl (by rfl) (oneCell_of (by rfl)) f12 (by rfl) ?_
            rintro w_1 f g e
            have s := g.size
            replace hw := hw.trans (below_of_grownBy g.g hw.size (by omega))
            replace fJ := fJ.y g (by decide)
            clear f12
            refine wl_nil ?_
            refine rk_seq ?_
            refine rk_drawo (id := 14) (none) [0, 1, 0, 6, 11, 31] [0, 1, 0, 7, 15, 31] 10 2 [0, 2, 1, 3, 4, 5] [(.p, 0), (.s, 2), (.c, 1), (.l, 3), (.p, 4), (.p, 5)] (by kernel_rfl) (by kernel_rfl) (by kernel_rfl) (by kernel_rfl) (by kernel_rfl) ?_
            dsimp only [inOrder, nthOp]
            replace hw := hw.drew
            replace fJ := fJ.d
            replace f := f.d
            refine wl_p (fun _ => o_move rfl) ?_
            refine wl_s (fun _ hk => (o_loadag Tryz.isAgg37 Tryz.sizeOf37 rfl (f.u (below_of_grown_none hk)) (by rfl))) ?_
            refine wl_call rfl (C_jsLeft _ fJ hlf) ?_ (hq := .inr fun _ _ h => grown_of_below h.2 _)
            rintro v62 w62 ⟨rfl, b62⟩
            simp only [drew_size] at b62
            have s62 := b62.size
            simp only [drew_size] at s62
            replace hw := hw.trans (b62.mono hw.size)
            replace f := f.u b62
            replace fJ := fJ.u b62
            refine wl_call rfl (C_r8SizeY _ (by rfl) (f60.u hw) (by omega) hz rfl (by omega)) ?_
            rintro v64 w64 ⟨rfl, b64⟩
            have s64 := b64.size
            replace hw := hw.trans (b64.mono hw.size)
            replace fJ := fJ.u b64
            replace f := f.u b64
            refine wl_p (fun _ => o_assign rfl) ?_
            refine wl_p (fun _ => o_assign rfl) ?_
            refine wl_nild ?_
            refine rk_seq ?_
            refine rk_draw (id := 15) (none) [0, 0, 2, 0, 8, 16, 36, 97, 255] [0, 0, 2, 0, 8, 24, 62, 127, 255] 160 32 [(.p, 0), (.p, 1), (.s, 2), (.p, 3), (.r, 4), (.c, 5), (.p, 6), (.l, 7), (.p, 8)] (by kernel_rfl) (by kernel_rfl) (by kernel_rfl) (by kernel_rfl) (by kernel_rfl) ?_
            replace hw := hw.drew
            replace f := f.d
            replace fJ := fJ.d
            refine wl_p (fun _ => o_move rfl) ?_
            refine wl_p (fun _ => o_faddr (s := 37) (i := 0) (off := 0) Tryz.underlying37 rfl Tryz.sizeOf5 rfl rfl rfl) ?_
            refine wl_s (fun _ hk => (o_loadbg Tryz.isAgg5 rfl (f.u (below_of_grown_none hk)) (by rfl))) ?_
            refine wl_p (fun _ => o_faddr (s := 37) (i := 1) (off := 1) Tryz.underlying37 rfl Tryz.sizeOf35 rfl rfl rfl) ?_
            refine wl_r (o_loadbg Tryz.isAgg35 rfl f (by rfl)) ?_
            refine wl_call rfl (C_OwnB _ (f60.u hw) rfl (by omega)) ?_ (hq := .inr fun _ _ h => grown_of_below h.choose_spec.choose_spec.2.2 _)
            rintro v70 w70 ⟨A70, ⟨c70, ⟨rfl, ⟨f70, b70⟩⟩⟩⟩
            simp only [drew_size] at f70
            simp only [drew_size] at b70
            have qf70 := f70.cap
            have s70 := b70.size
            simp only [drew_size] at s70
            replace hw := hw.trans (b70.mono hw.size)
            replace fJ := fJ.u b70
            replace f := f.u b70
            refine wl_p (fun _ => (o_buildg [_, _] Tryz.underlying37 Tryz.zeroValue37 (by rfl) (by rfl) rfl (by rfl) (by rfl) (fun _ => by kernel_rfl))) ?_
            refine wl_call rfl (K_jsAppend (kd := L[i].2.1.1) (p := L[i].2.1.2) _ fJ f70.to_RdT.1 rfl rfl hO (by omega) hbs hC2 (by omega)) ?_
            rintro _ w72 ⟨rfl, L2, fJ2, hJ, hL2⟩
            have hw2 := hw.trans (hJ.own fJ hs31)
            clear hw fJ f70 f
            have hw := hw2
            clear hw2 hJ hL2
            refine wl_p (fun _ => o_assign rfl) ?_
            refine wl_nild ?_
            refine rk_seq ?_
            refine rk_region ?_
            refine wl_p (fun _ => o_assign rfl) ?_
            refine wl_nil ?_
            refine rk_seq ?_
            refine rk_seq ?_
            refine rk_region ?_
            refine wl_p (fun _ => o_move rfl) ?_
            refine wl_p (fun _ => o_eq rfl rfl) ?_
            refine wl_nil ?_
            refine rk_if rfl (fun h74 => absurd h74 (by omega)) (fun h74 => ?_)
            refine rk_seq ?_
            refine rk_region ?_
            refine wl_p (fun _ => o_move rfl) ?_
            refine wl_p (fun _ => o_move rfl) ?_
            refine wl_p (fun _ => o_gt rfl rfl) ?_
            refine wl_nil ?_
            refine rk_if rfl (fun h77 => absurd h77 (by omega)) (fun h77 => ?_)
            refine rk_region ?_
            refine wl_p (fun _ => o_move rfl) ?_
            refine wl_p (fun _ => o_move rfl) ?_
            refine wl_p (fun _ => o_sub rfl rfl (by omega) (by omega)) ?_
            refine wl_p (fun _ => o_assign rfl) ?_
            refine wl_nil ?_
            refine rk_seq ?_
            refine rk_region ?_
            refine wl_p (fun _ => o_move rfl) ?_
            refine wl_p (fun _ => o_move rfl) ?_
            refine wl_p (fun _ => o_ne rfl rfl) ?_
            refine wl_p (fun _ => o_move rfl) ?_
            refine wl_p (fun _ => o_move rfl) ?_
            refine wl_call rfl (C_jsLeft _ fJ2 hlf2) ?_
            rintro v86 w86 ⟨rfl, b86⟩
            have s86 := b86.size
            replace hw := hw.trans (b86.mono hw.size)
            replace fJ2 := fJ2.u b86
            refine wl_p (fun _ => o_move rfl) ?_
            refine wl_p (fun _ => o_ne rfl rfl) ?_
            refine wl_p (fun _ => o_pick_f rfl rfl) ?_
            refine wl_nil ?_
            refine rk_if rfl (fun h89 => absurd h89 (by omega)) (fun h89 => ?_)
            refine rk_skip ?_
            refine rk_blk ?_
            refine rk_region ?_
            refine wl_p (fun _ => o_move rfl) ?_
            refine wl_p (fun _ => o_add rfl rfl (by omega) (by omega)) ?_
            refine wl_p (fun _ => o_assign rfl) ?_
            refine wl_nil ?_
            exact rk_againf (Fr.le_of (by kernel_rfl) (by kernel_rfl) (by repeat' constructor)) ⟨i + 1, (i : Int) + 1, L2, C2, R ++ [(L[i].2.1.1, L[i].2.1.2)], rfl, by omega, by omega, rfl, fJ2, hh2, hR72, hw⟩ (by omega)
        · refine rk_seq ?_
          refine rk_seq ?_
          refine rk_region ?_
          refine wl_p (fun _ => o_move rfl) ?_
          refine wl_p (fun _ => o_move rfl) ?_
          refine wl_p (fun _ => o_len (t := 22) Tryz.underlying22 rfl) ?_
          refine wl_p (fun _ => o_lt rfl rfl) ?_
          refine wl_nil ?_
          refine rk_if rfl (fun h53 => ?_) (fun h53 => h53.elim (by omega))
          refine rk_skip ?_
          refine rk_seq ?_
          refine rk_block ?_
          refine rk_seq ?_
          refine rk_region ?_
          refine wl_p (fun _ => o_move rfl) ?_
          refine wl_p (fun _ => o_move rfl) ?_
          refine wl_p (fun _ => (o_iaddrA (i) Tryz.underlying22 Tryz.sizeOf40 rfl rfl rfl (hL.some_ (by omega)) (by omega))) ?_
          refine wl_p (fun _ => (o_faddrR rfl Tryz.underlying40 (by rfl) Tryz.sizeOf37 (by rfl) (by rfl))) ?_
          refine wl_ldJRec rfl hL hw (by omega) ?_
          rintro A160 c160 f60 i60 i60_1
          refine wl_allocg [_, _] Tryz.zeroValue37 (by rfl) ?_
          rintro g12 w12 f12 b12 i12 i12_1
          have s12 := b12.size
          replace hw := hw.trans (b12.mono hw.size)
          replace fJ := fJ.u b12
          refine wl_storega Tryz.sizeOf37 rfl rfl (by rfl) (oneCell_of (by rfl)) f12 (by rfl) ?_
          rintro w_1 f g e
          have s := g.size
          replace hw := hw.trans (below_of_grownBy g.g hw.size (by omega))
          replace fJ := fJ.y g (by decide)
          clear f12
          refine wl_nil ?_
          refine rk_seq ?_
          refine rk_drawo (id := 14) (none) [0, 1, 0, 6, 11, 31] [0, 1, 0, 7, 15, 31] 10 2 [0, 2, 1, 3, 4, 5] [(.p, 0), (.s, 2), (.c, 1), (.l, 3), (.p, 4), (.p, 5)] (by kernel_rfl) (by kernel_rfl) (by kernel_rfl) (by kernel_rfl) (by kernel_rfl) ?_
          dsimp only [inOrder, nthOp]
          replace hw := hw.drew
          replace fJ := fJ.d
          replace f := f.d
          refine wl_p (fun _ => o_move rfl) ?_
          refine wl_s (fun _ hk => (o_loadag Tryz.isAgg37 Tryz.sizeOf37 rfl (f.u (below_of_grown_none hk)) (by rfl))) ?_
          refine wl_call rfl (C_jsLeft _ fJ hlf) ?_ (hq := .inr fun _ _ h => grown_of_below h.2 _)
          rintro v62 w62 ⟨rfl, b62⟩
          simp only [drew_size] at b62
          have s62 := b62.size
          simp only [drew_size] at s62
          replace hw := hw.trans (b62.mono hw.size)
          replace f := f.u b62
          replace fJ := fJ.u b62
          refine wl_call rfl (C_r8SizeN _ (by rfl) hO rfl) ?_
          rintro v64 w64 ⟨rfl, b64⟩
          have s64 := b64.size
          replace hw := hw.trans (b64.mono hw.size)
          replace fJ := fJ.u b64
          replace f := f.u b64
          refine wl_p (fun _ => o_assign rfl) ?_
          refine wl_p (fun _ => o_assign rfl) ?_
          refine wl_nild ?_
          refine rk_seq ?_
          refine rk_draw (id := 15) (none) [0, 0, 2, 0, 8, 16, 36, 97, 255] [0, 0, 2, 0, 8, 24, 62, 127, 255] 160 32 [(.p, 0), (.p, 1), (.s, 2), (.p, 3), (.r, 4), (.c, 5), (.p, 6), (.l, 7), (.p, 8)] (by kernel_rfl) (by kernel_rfl) (by kernel_rfl) (by kernel_rfl) (by kernel_rfl) ?_
          replace hw := hw.drew
          replace f := f.d
          replace fJ := fJ.d
          refine wl_p (fun _ => o_move rfl) ?_
          refine wl_p (fun _ => o_faddr (s := 37) (i := 0) (off := 0) Tryz.underlying37 rfl Tryz.sizeOf5 rfl rfl rfl) ?_
          refine wl_s (fun _ hk => (o_loadbg Tryz.isAgg5 rfl (f.u (below_of_grown_none hk)) (by rfl))) ?_
          refine wl_p (fun _ => o_faddr (s := 37) (i := 1) (off := 1) Tryz.underlying37 rfl Tryz.sizeOf35 rfl rfl rfl) ?_
          refine wl_r (o_loadbg Tryz.isAgg35 rfl f (by rfl)) ?_
          refine wl_call rfl (C_OwnB _ (f60.u hw) rfl (by omega)) ?_ (hq := .inr fun _ _ h => grown_of_below h.choose_spec.choose_spec.2.2 _)
          rintro v70 w70 ⟨A70, ⟨c70, ⟨rfl, ⟨f70, b70⟩⟩⟩⟩
          simp only [drew_size] at f70
          simp only [drew_size] at b70
          have qf70 := f70.cap
          have s70 := b70.size
          simp only [drew_size] at s70
          replace hw := hw.trans (b70.mono hw.size)
          replace fJ := fJ.u b70
          replace f := f.u b70
          refine wl_p (fun _ => (o_buildg [_, _] Tryz.underlying37 Tryz.zeroValue37 (by rfl) (by rfl) rfl (by rfl) (by rfl) (fun _ => by kernel_rfl))) ?_
          refine wl_call rfl (C_jsAppendBad _ fJ f70.to_Rd (by rfl) rfl (by omega) (by omega)) ?_
          rintro v72 w72 ⟨rfl, b72⟩
          have s72 := b72.size
          replace hw := hw.trans (b72.mono hw.size)
          replace f := f.u b72
          replace fJ := fJ.u b72
          replace f70 := f70.u b72
          refine wl_p (fun _ => o_assign rfl) ?_
          refine wl_nild ?_
          refine rk_seq ?_
          refine rk_region ?_
          refine wl_p (fun _ => o_assign rfl) ?_
          refine wl_nil ?_
          refine rk_seq ?_
          refine rk_seq ?_
          refine rk_region ?_
          refine wl_p (fun _ => o_move rfl) ?_
          refine wl_p (fun _ => o_eq rfl rfl) ?_
          refine wl_nil ?_
          refine rk_true rfl ?_
          refine rk_region ?_
          refine wl_p (fun _ => o_assign rfl) ?_
          refine wl_nil ?_
          refine rk_seq ?_
          refine rk_region ?_
          refine wl_p (fun _ => o_move rfl) ?_
          refine wl_p (fun _ => o_move rfl) ?_
          refine wl_p (fun _ => o_ne rfl rfl) ?_
          refine wl_p (fun _ => o_move rfl) ?_
          refine wl_p (fun _ => o_move rfl) ?_
          refine wl_call rfl (C_jsLeft _ fJ hlf) ?_
          rintro v86 w86 ⟨rfl, b86⟩
          have s86 := b86.size
          replace hw := hw.trans (b86.mono hw.size)
          replace f70 := f70.u b86
          replace fJ := fJ.u b86
          replace f := f.u b86
          refine wl_p (fun _ => o_move rfl) ?_
          refine wl_p (fun _ => o_ne rfl rfl) ?_
          refine wl_p (fun _ => o_pick_f rfl rfl) ?_
          refine wl_nil ?_
          refine rk_if rfl (fun h89 => absurd h89 (by omega)) (fun h89 => ?_)
          refine rk_skip ?_
          refine rk_blk ?_
          refine rk_region ?_
          refine wl_p (fun _ => o_move rfl) ?_
          refine wl_p (fun _ => o_add rfl rfl (by omega) (by omega)) ?_
          refine wl_p (fun _ => o_assign rfl) ?_
          refine wl_nil ?_
          exact rk_againf (Fr.le_of (by kernel_rfl) (by kernel_rfl) (by repeat' constructor)) ⟨i + 1, (i : Int) + 1, L', C, R, rfl, by omega, by omega, rfl, fJ, hh, hR7, hw⟩ (by omega)
      · refine rk_seq ?_
        refine rk_seq ?_
        refine rk_region ?_
        refine wl_p (fun _ => o_move rfl) ?_
        refine wl_p (fun _ => o_move rfl) ?_
        refine wl_p (fun _ => o_len (t := 22) Tryz.underlying22 rfl) ?_
        refine wl_p (fun _ => o_lt rfl rfl) ?_
        refine wl_nil ?_
        refine rk_if rfl (fun h53 => absurd h53 (by omega)) (fun h53 => ?_)
        refine rk_exit rfl ?_
        obtain rfl : i = L.length := by omega
        exact rk_tof hj (Fr.le_of (by kernel_rfl) (by kernel_rfl) (by repeat' constructor)) ⟨L', C, R, rfl, fJ, hh, hR7, hw⟩
    clear f38 hw
    rintro fr V ⟨L', C, R, rfl, fJ, hh, hR7, hw⟩
    have shw := hw.size
    have hRl := fJ.len
    have hpk2 := pick_range n0 (R.length + 1) (by omega)
    obtain ⟨k, hk⟩ : ∃ k : Nat, (R.length : Int) - pick n0 (R.length + 1) = k := ⟨((R.length : Int) - pick n0 (R.length + 1)).toNat, by omega⟩
    obtain ⟨T, hT⟩ : ∃ T, R.drop k = T := ⟨_, rfl⟩
    have hTl : R.length - k = T.length := by rw [← hT, List.length_drop]
    have hTm : ∀ r ∈ T, r ∈ R := fun r hr => by rw [← hT] at hr; exact List.mem_of_mem_drop hr
    have hTo : ∀ r ∈ T, OkR r := fun r hr => fJ.ok r (hTm r hr)
    have hT7 : ∀ r ∈ T, r.2.length ≤ 10000 := fun r hr => by have := hR7 r (hTm r hr); omega
    have hTz : szR T ≤ m * 256 := by rw [← hT]; exact Nat.le_trans (szR_drop R k) fJ.fit
    have hCl := fJ.dk.len
    obtain ⟨rm, hrm⟩ : ∃ rm, m * 256 - szR T = rm := ⟨_, rfl⟩
    obtain ⟨S2, hS2⟩ : ∃ S2, swS S1 C m 1 (bytesAll (fstB 1) T) = S2 := ⟨_, rfl⟩
    have hS2l : S2.length = 2 + 2 * m := by rw [← hS2, swS_len, hS1l]
    have hQ2 : List.replicate S1.length none = Q := by rw [hS1l, hQ]
    have hQ3 : List.replicate S2.length none = Q := by rw [hS2l, hQ]
    have hcr : crash S2 Q [] = S2 := crash_nil _ _
    have hr0 : rdD S2 Q ((0 : Nat) : Int) = (headB 0 m, 0) := by
      have := swS_other (S := S1) (C := C) (a := m) (e1 := 1) (b := bytesAll (fstB 1) T) (k := 0) hCl (by omega) (by omega) (by omega)
      rw [hS2, hQ2, hh] at this
      exact rdD_of this (by omega)
    have hr1 : rdD S2 Q ((1 : Nat) : Int) = (headB 1 m, 0) := by
      have := swS_head (S := S1) (C := C) (a := m) (e1 := 1) (b := bytesAll (fstB 1) T) hCl (by omega)
      rw [hS2, hQ2] at this
      exact rdD_of this (by omega)
    have har : allR (fstB 1) (areaB (cur S2 Q) (2 + 1 % 2 * m) m) = T := by
      have := swS_area (S := S1) (C := C) (a := m) (e1 := 1) (b := bytesAll (fstB 1) T) hCl (by omega) (by rw [bytesAll_sz]; exact hTz)
      rw [hS2, hQ2] at this
      rw [this, allR_back _ hTo]
    obtain ⟨S3, hS3⟩ : ∃ S3, swS S2 Q m 2 (bytesAll (fstB 2) T) = S3 := ⟨_, rfl⟩
    obtain ⟨vs, hvs⟩ : ∃ n, V.heap.size = n := ⟨_, rfl⟩
    have hrowV := fJ.row
    have hgV := fJ.lt
    have hdV := fJ.dk.hi
    have hdg := fJ.hg
    have hd12 : w31.heap.size ≤ w32.heap.size := by have := fJ.dk.g1; have := fJ.dk.g2; omega
    rw [hvs] at hrowV hgV hdV
    first | refine rk_frame (by simp only [List.cons_append, List.nil_append, List.drop_succ_cons, List.drop_zero]; rfl) ?_ | refine wl_frame (by simp only [List.cons_append, List.nil_append, List.drop_succ_cons, List.drop_zero]; rfl) ?_
    refine rk_seq ?_
    refine rk_region ?_
    refine wl_p (fun _ => o_move rfl) ?_
    refine wl_call rfl (C_jsRecords _ fJ) ?_
    rintro v91 w91 ⟨A91, ⟨c91, ⟨rfl, ⟨f91, b91⟩⟩⟩⟩
    have qf91 := f91.cap
    have s91 := b91.size
    replace hw := hw.trans (b91.mono hw.size)
    replace fJ := fJ.u b91
    refine wl_p (fun _ => o_move rfl) ?_
    have fq := (f91.re (X' := fun k => vs ≤ k) (fun k h => by omega)).rrq (fun k h => by omega)
    refine wl_call rfl (C_last09 _ fq hk rfl (by omega) (by omega) w2) ?_
    rintro v93 w93 ⟨A93, ⟨c93, ⟨rfl, ⟨f93, ⟨i93, b93⟩⟩⟩⟩⟩
    have s93 := b93.size
    replace hw := hw.trans (b93.mono hw.size)
    replace fq := fq.u b93
    replace fJ := fJ.u b93
    replace f91 := f91.u b93
    refine wl_p (fun _ => o_assign rfl) ?_
    refine wl_nil ?_
    refine rk_seq ?_
    refine rk_region ?_
    refine wl_p (fun _ => o_move rfl) ?_
    refine wl_p (fun _ => o_mul rfl rfl (by omega) (by omega)) ?_
    refine wl_p (fun _ => o_assign rfl) ?_
    refine wl_nil ?_
    refine rk_seq ?_
    refine rk_seq ?_
    refine rk_region ?_
    refine wl_p (fun _ => o_assign rfl) ?_
    refine wl_nil ?_
    refine rk_block ?_
    rw [hT] at f93
    rw [hTl]
    refine rk_joinf (fun fb fr V => fr = [(18, .int .i64 (rm : Nat))] ++ fb.drop 2 ∧ RRq (fun k => vs ≤ k) V A93 T ∧ JSt V w31.heap.size w32.heap.size g32 g38 L' S1 C m 0 R 0 ∧ Below w.heap.size w V) ?_ (fun ks hj => ?_)
    rotate_left
    · refine rk_loopf (fun fb q fr V => ∃ (i : Nat) (v z : Int), fr = [(19, .int .i64 v), (18, .int .i64 z)] ++ fb.drop 2 ∧ v = i ∧ i ≤ T.length ∧ q = T.length - i ∧ z = m * 256 - szR (T.take i) ∧ RRq (fun k => vs ≤ k) V A93 T ∧ JSt V w31.heap.size w32.heap.size g32 g38 L' S1 C m 0 R 0 ∧ Below w.heap.size w V) (n := T.length) (Fr.le_of (by kernel_rfl) (by kernel_rfl) (by repeat' constructor)) ⟨0, _, _, rfl, rfl, by omega, rfl, by simp [szR], f93, fJ, hw⟩ ?_
      clear f93 f91 fJ hw fq
      rintro q fr V ⟨i, v, z, rfl, rfl, hi, rfl, rfl, fT, fJ, hw⟩
      have shw := hw.size
      first | refine rk_frame (by simp only [List.cons_append, List.nil_append, List.drop_succ_cons, List.drop_zero]; rfl) ?_ | refine wl_frame (by simp only [List.cons_append, List.nil_append, List.drop_succ_cons, List.drop_zero]; rfl) ?_
      by_cases hil : i < T.length
      · have hO := hTo _ (List.getElem_mem hil)
        have hp7 := hR7 _ (hTm _ (List.getElem_mem hil))
        have hzs := szR_succ T hil
        have hzl := szR_le T (i + 1)
        obtain ⟨y, hy⟩ : ∃ y, (bodyB T[i]).length + 8 = y := ⟨_, rfl⟩
        rw [hy] at hzs
        refine rk_seq ?_
        refine rk_seq ?_
        refine rk_region ?_
        refine wl_p (fun _ => o_move rfl) ?_
        refine wl_p (fun _ => o_move rfl) ?_
        refine wl_p (fun _ => o_len (t := 44) Tryz.underlying44 rfl) ?_
        refine wl_p (fun _ => o_lt rfl rfl) ?_
        refine wl_nil ?_
        refine rk_if rfl (fun h99 => ?_) (fun h99 => h99.elim (by omega))
        refine rk_skip ?_
        refine rk_seq ?_
        refine rk_block ?_
        refine rk_region ?_
        refine wl_p (fun _ => o_move rfl) ?_
        refine wl_p (fun _ => o_move rfl) ?_
        refine wl_p (fun _ => o_move rfl) ?_
        refine wl_p (fun _ => (o_iaddrA (i) Tryz.underlying44 Tryz.sizeOf37 rfl rfl rfl (fT.some_ (by omega)) (by omega))) ?_
        refine wl_ldRec rfl fT.to_RRec (Below.refl _ _) (by omega) ?_
        rintro A1106 c1106 f106 i106 i106_1
        refine wl_call rfl (C_r8SizeY _ (by rfl) f106 (by omega) hy rfl (by omega)) ?_
        rintro v107 w107 ⟨rfl, b107⟩
        have s107 := b107.size
        replace hw := hw.trans (b107.mono hw.size)
        replace f106 := f106.u b107
        replace fJ := fJ.u b107
        replace fT := fT.u b107
        refine wl_p (fun _ => o_sub rfl rfl (by omega) (by omega)) ?_
        refine wl_p (fun _ => o_assign rfl) ?_
        refine wl_nil ?_
        refine rk_blk ?_
        refine rk_region ?_
        refine wl_p (fun _ => o_move rfl) ?_
        refine wl_p (fun _ => o_add rfl rfl (by omega) (by omega)) ?_
        refine wl_p (fun _ => o_assign rfl) ?_
        refine wl_nil ?_
        exact rk_againf (Fr.le_of (by kernel_rfl) (by kernel_rfl) (by repeat' constructor)) ⟨i + 1, (i : Int) + 1, _, rfl, by omega, by omega, rfl, by omega, fT, fJ, hw⟩ (by omega)
      · refine rk_seq ?_
        refine rk_seq ?_
        refine rk_region ?_
        refine wl_p (fun _ => o_move rfl) ?_
        refine wl_p (fun _ => o_move rfl) ?_
        refine wl_p (fun _ => o_len (t := 44) Tryz.underlying44 rfl) ?_
        refine wl_p (fun _ => o_lt rfl rfl) ?_
        refine wl_nil ?_
        refine rk_if rfl (fun h99 => absurd h99 (by omega)) (fun h99 => ?_)
        refine rk_exit rfl ?_
        obtain rfl : i = T.length := by omega
        rw [List.take_length, show (m : Int) * 256 - (szR T : Nat) = (rm : Nat) by omega]
        exact rk_tof hj (Fr.le_of (by kernel_rfl) (by kernel_rfl) (by repeat' constructor)) ⟨rfl, fT, fJ, hw⟩
    clear f93 f91 fJ hw fq
    rintro fr V ⟨rfl, fT, fJ, hw⟩
    have shw := hw.size
    first | refine rk_frame (by simp only [List.cons_append, List.nil_append, List.drop_succ_cons, List.drop_zero]; rfl) ?_ | refine wl_frame (by simp only [List.cons_append, List.nil_append, List.drop_succ_cons, List.drop_zero]; rfl) ?_
    refine rk_seq ?_
    refine rk_seq ?_
    refine rk_region ?_
    refine wl_p (fun _ => o_move rfl) ?_
    refine wl_p (fun _ => o_move rfl) ?_
    refine wl_call rfl (C_OwnRecords _ fT.to_RRec rfl (by omega) (by omega)) ?_
    rintro v111 w111 ⟨A111, ⟨c111, ⟨rfl, ⟨f111, b111⟩⟩⟩⟩
    have qf111 := f111.cap
    have s111 := b111.size
    replace hw := hw.trans (b111.mono hw.size)
    replace fJ := fJ.u b111
    replace fT := fT.u b111
    have hfo := f111.to_RRec
    refine wl_call rfl (K_jsSwitch (e1 := 1) _ fJ hfo rfl hTo hTz rfl hS2 hQ2) ?_
    rintro _ w112 ⟨rfl, L2, fK, hJ, hL2⟩
    have hw2 := hw.trans (hJ.own fJ hs31)
    have fT2 := fT.keep (fun k hk hlt => hJ.block hlt (.inr (by omega)) (by omega) (fun e => by have := hrowV k e; omega))
    clear hw fJ f111 fT hfo
    have hw := hw2
    have fT := fT2
    clear hw2 fT2 hJ hL2
    refine wl_p (fun _ => o_ne rfl rfl) ?_
    refine wl_p (fun _ => o_move rfl) ?_
    refine wl_p (fun _ => o_move rfl) ?_
    refine wl_call rfl (C_jsLeft _ fK hrm) ?_
    rintro v116 w116 ⟨rfl, b116⟩
    have s116 := b116.size
    replace hw := hw.trans (b116.mono hw.size)
    replace fT := fT.u b116
    replace fK := fK.u b116
    refine wl_p (fun _ => o_move rfl) ?_
    refine wl_p (fun _ => o_ne rfl rfl) ?_
    refine wl_p (fun _ => o_pick_f rfl rfl) ?_
    refine wl_p (fun _ => o_move rfl) ?_
    refine wl_know 120 false rfl (decide_eq_false (by omega)) ?_
    refine wl_p (fun _ => o_move rfl) ?_
    have hd := fK.dk
    refine wl_call rfl (C_dCrash (lo2 := 0) (hi2 := 0) (kp := []) _ hd RdBo.nil_ hcr hQ3 (.inl (Nat.zero_le _)) rfl (by simp)) ?_
    rintro _ w122 ⟨rfl, hd2, hc2⟩
    have hw2 := hw.trans (hc2.below hw.size hs31)
    have fT2 := fT.keep (fun k hk hlt => hc2.block k hlt (.inr (by omega)))
    clear hw fK fT hd hc2
    have hw := hw2
    have fT := fT2
    clear hw2 fT2
    refine wl_p (fun _ => o_ne rfl rfl) ?_
    refine wl_p (fun _ => o_pick_f rfl rfl) ?_
    refine wl_nil ?_
    refine rk_false rfl ?_
    refine rk_skip ?_
    refine rk_seq ?_
    refine rk_region ?_
    refine wl_p (fun _ => o_move rfl) ?_
    have hs127 := hw.size
    refine wl_call rfl (C_jsOpen (e := 1) (a := m) (e1 := 2) (S := S2) (C := Q) _ (by assumption) hr0 hr1 (headOf_second (by omega)) rfl har hS3 hQ3 (headB_len _ _) (headB_len _ _) (by omega) (by omega)) ?_
    rintro _ w127 ⟨g127, L127, rfl, fJ, hg127, hL127, hc2⟩
    have hw2 := hw.trans (hc2.below hw.size hs31)
    have fT2 := fT.keep (fun k hk hlt => hc2.block k hlt (.inr (by omega)))
    clear hw fT hd2 hc2
    have hw := hw2
    have fT := fT2
    clear hw2 fT2
    refine wl_p (fun _ => o_move rfl) ?_
    refine wl_p (fun _ => o_ext20 rfl) ?_
    refine wl_p (fun _ => o_ext21 rfl) ?_
    refine wl_p (fun _ => o_assign rfl) ?_
    refine wl_p (fun _ => o_assign rfl) ?_
    refine wl_nil ?_
    refine rk_seq ?_
    refine rk_region ?_
    refine wl_p (fun _ => o_move rfl) ?_
    refine wl_p (fun _ => o_eq rfl rfl) ?_
    refine wl_p (fun _ => o_move rfl) ?_
    refine wl_p (fun _ => o_move rfl) ?_
    refine wl_call rfl (C_jsRecords _ fJ) ?_
    rintro v134 w134 ⟨A134, ⟨c134, ⟨rfl, ⟨f134, b134⟩⟩⟩⟩
    have qf134 := f134.cap
    have s134 := b134.size
    replace hw := hw.trans (b134.mono hw.size)
    replace fT := fT.u b134
    replace fJ := fJ.u b134
    refine wl_p (fun _ => o_move rfl) ?_
    refine wl_call rfl (C_kRecs _ f134.to_RRec fT.to_RRec rfl rfl (by omega) (by omega)) ?_
    rintro v136 w136 ⟨rfl, b136⟩
    have s136 := b136.size
    replace hw := hw.trans (b136.mono hw.size)
    replace fJ := fJ.u b136
    replace fT := fT.u b136
    replace f134 := f134.u b136
    refine wl_p (fun _ => o_pick_t rfl rfl) ?_
    refine wl_p (fun _ => o_move rfl) ?_
    refine wl_know 138 true rfl (by simp) ?_
    refine wl_p (fun _ => o_move rfl) ?_
    refine wl_call rfl (C_jsLeft _ fJ hrm) ?_
    rintro v140 w140 ⟨rfl, b140⟩
    have s140 := b140.size
    replace hw := hw.trans (b140.mono hw.size)
    replace f134 := f134.u b140
    replace fT := fT.u b140
    replace fJ := fJ.u b140
    refine wl_p (fun _ => o_move rfl) ?_
    refine wl_p (fun _ => o_eq rfl rfl) ?_
    refine wl_p (fun _ => o_pick_t rfl rfl) ?_
    refine wl_p (fun _ => o_move rfl) ?_
    refine wl_know 144 true rfl (decide_eq_true (by omega)) ?_
    refine wl_p (fun _ => o_move rfl) ?_
    refine wl_call rfl (C_jsEpoch _ fJ) ?_
    rintro v146 w146 ⟨rfl, b146⟩
    have s146 := b146.size
    replace hw := hw.trans (b146.mono hw.size)
    replace fJ := fJ.u b146
    replace fT := fT.u b146
    replace f134 := f134.u b146
    refine wl_p (fun _ => o_eq rfl rfl) ?_
    refine wl_p (fun _ => o_pick_t rfl rfl) ?_
    refine wl_p (fun _ => o_assign rfl) ?_
    refine wl_nil ?_
    refine ret1 rfl rfl ?_
    exact ⟨rfl, hw⟩
end Go.Proofs.YtnnhenafhalobaaGreat
