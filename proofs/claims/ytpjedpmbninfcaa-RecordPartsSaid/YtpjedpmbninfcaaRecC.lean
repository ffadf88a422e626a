/-
  Walks of package record: one record is read.
-/
import Derived.Test.YtpjedpmbninfcaaRecB
import Derived.Test.YtpjedpmbninfcaaClone
namespace Go.Proofs.Ytpjedpmbninfcaa
open Go.RowKit
/-- One record, read with a chain: the record, how many bytes it has, the chain after it, the error. -/
def readR (d b : By) : Rc × Nat × By × Nat :=
  match startR b with
  | (k, f, z, e) =>
    if e ≠ 0 then ((0, []), 0, nul32, e)
    else if b.length - f < z + 8 then ((0, []), 0, nul32, 5)
    else if (nextB d (UInt8.ofNat k, (b.drop f).take z)).take 8 = (b.drop (f + z)).take 8 then ((UInt8.ofNat k, (b.drop f).take z), f + z + 8, nextB d (UInt8.ofNat k, (b.drop f).take z), 0)
    else ((0, []), 0, nul32, 4)
theorem startR_le {b : By} {k o z x : Nat} (h : startR b = (k, o, z, x)) : k ≤ 255 ∧ o ≤ b.length ∧ o ≤ 10 ∧ z ≤ 8192 := by
  unfold startR at h
  have h1 := leVal_lt (rTake (clampN 1) (b.take 10, 0)).1
  have h2 : (rTake (clampN 1) (b.take 10, 0)).1.length ≤ 1 := by
    unfold rTake; (repeat' split) <;> simp [clampN, List.length_take] <;> omega
  have h3 := Nat.pow_le_pow_right (show 0 < 256 by omega) h2
  have h4 : (rWord 1 (b.take 10, 0)).1 ≤ 255 := by
    show leVal _ ≤ 255
    omega
  have h5 : (b.take 10).length = min 10 b.length := List.length_take
  split at h
  · cases h; omega
  split at h
  · cases h; omega
  split at h
  · cases h; omega
  · cases h; omega
theorem C_RecRead {A : Option Addr} {d b : By} {n c : Nat} (w : World) (hb : Rd w A b) (hn : n = b.length) (hc : b.length ≤ c) (hd : d.length = 32) (hl : b.length ≤ 400000) :
    CallsR Try.prog 9 [.agg (B8 d).toArray, .slice A n c] w fun v w' => ∃ (k : UInt8) (p : By) (A' : Option Addr) (c' z : Nat) (x : By) (e : Nat), v = .tuple #[.agg #[.int .u8 (k.toNat : Int), .slice A' p.length c'], .int .i64 (z : Int), .agg (B8 x).toArray, .int .i64 (e : Int)] ∧ OwnH w' w.heap.size w'.heap.size A' c' p ∧ readR d b = ((k, p), z, x, e) ∧ x.length = 32 ∧ Below w.heap.size w w' := by
  subst hn
  obtain ⟨⟨kd, at0, sz, er⟩, hs⟩ : ∃ s, startR b = s := ⟨_, rfl⟩
  obtain ⟨q1, q2, q3, q4⟩ := startR_le hs
  obtain ⟨k8, rfl⟩ : ∃ k8 : UInt8, kd = k8.toNat := ⟨UInt8.ofNat kd, by rw [UInt8.toNat_ofNat_of_lt' (by show kd < 256; omega)]⟩
  obtain ⟨p, hp⟩ : ∃ p, (b.drop at0).take sz = p := ⟨_, rfl⟩
  obtain ⟨y, hy⟩ : ∃ y, (b.drop (at0 + sz)).take 8 = y := ⟨_, rfl⟩
  obtain ⟨r, hr⟩ : ∃ r, nextB d (k8, p) = r := ⟨_, rfl⟩
  have h32 : r.length = 32 := by rw [← hr, nextB_len]
  have h8 : (r.take 8).length = 8 := by rw [List.length_take]; omega
  unfold readR
  rw [hs]
  dsimp only
  rw [UInt8.ofNat_toNat, hp, hy, hr]
  have hS : StartR b k8.toNat at0 sz er := ⟨hs⟩
  refine callsR Try.func9 rfl rfl (by kernel_rfl) rfl ?_
  have hw := Below.refl w.heap.size w
  refine rk_seq ?_
  refine rk_region ?_
  refine wl_boxg _ rfl (by rfl) ?_
  rintro g2 w2 f2 b2 i2 i2_1
  have s2 := b2.size
  replace hw := hw.trans (b2.mono hw.size)
  refine wl_allocg [_, _] Try.zeroValue31 (by rfl) ?_
  rintro g4 w4 f4 b4 i4 i4_1
  have s4 := b4.size
  replace hw := hw.trans (b4.mono hw.size)
  replace f2 := f2.u b4
  refine wl_p (fun _ => o_assign rfl) ?_
  refine wl_allocB Try.underlying23 Try.zeroValue23 (by rfl) ?_
  rintro g6 w6 f6 b6 i6 i6_1
  have s6 := b6.size
  replace hw := hw.trans (b6.mono hw.size)
  replace f2 := f2.u b6
  replace f4 := f4.u b6
  refine wl_p (fun _ => o_assign rfl) ?_
  refine wl_nil ?_
  refine rk_seq ?_
  refine rk_region ?_
  refine wl_p (fun _ => o_move rfl) ?_
  refine wl_call rfl (C_startR _ hS (hb.below hw) rfl hc) ?_
  rintro _ w17 ⟨rfl, b17⟩
  have sb17 := b17.size
  replace hw := hw.trans (b17.mono hw.size)
  replace f4 := f4.u b17
  replace f2 := f2.u b17
  replace f6 := f6.u b17
  refine wl_p (fun _ => o_move rfl) ?_
  refine wl_p (fun _ => o_ext40 rfl) ?_
  refine wl_p (fun _ => o_ext41 rfl) ?_
  refine wl_p (fun _ => o_ext42 rfl) ?_
  refine wl_p (fun _ => o_ext43 rfl) ?_
  refine wl_p (fun _ => o_assign rfl) ?_
  refine wl_p (fun _ => o_assign rfl) ?_
  refine wl_p (fun _ => o_assign rfl) ?_
  refine wl_p (fun _ => o_assign rfl) ?_
  refine wl_nil ?_
  refine rk_seq ?_
  refine rk_seq ?_
  refine rk_region ?_
  refine wl_p (fun _ => o_move rfl) ?_
  refine wl_p (fun _ => o_ne rfl rfl) ?_
  refine wl_nil ?_
  refine rk_if rfl (fun h23 => ?_) (fun h23 => ?_)
  · refine rk_seq ?_
    refine rk_region ?_
    refine wl_p (fun _ => (o_buildg [_, _] Try.underlying31 Try.zeroValue31 (by rfl) (by rfl) rfl (by rfl) (by rfl) (fun _ => by kernel_rfl))) ?_
    refine wl_p (fun _ => (o_buildga [_, _, _, _, _, _, _, _, _, _, _, _, _, _, _, _, _, _, _, _, _, _, _, _, _, _, _, _, _, _, _, _] Try.underlying23 Try.sizeOf5 Try.zeroValue23 (by rfl) (by rfl) rfl (by rfl) (by rfl) (fun _ => by kernel_rfl))) ?_
    refine wl_p (fun _ => o_move rfl) ?_
    refine wl_storega Try.sizeOf31 rfl rfl (by rfl) (by decide) f4 (by rfl) ?_
    rintro w_1 f g e
    have s := g.size
    replace hw := hw.trans (below_of_grownBy g.g hw.size (by omega))
    replace f6 := f6.k g.g (ap_some (by omega))
    replace f2 := f2.k g.g (ap_some (by omega))
    clear f4
    refine wl_p (fun _ => o_assign rfl) ?_
    refine wl_storega Try.sizeOf23 rfl rfl (by rfl) (by decide) f6 (by rfl) ?_
    rintro w_2 f_1 g_1 e_1
    have s_1 := g_1.size
    replace hw := hw.trans (below_of_grownBy g_1.g hw.size (by omega))
    replace f2 := f2.k g_1.g (ap_some (by omega))
    replace f := f.k g_1.g (ap_some (by omega))
    clear f6
    refine wl_p (fun _ => o_assign rfl) ?_
    refine wl_nil ?_
    refine ret_any (vs := [.agg #[.int .u8 0, .slice none 0 0], .int .i64 0, .agg (B8 nul32).toArray, .int .i64 (er : Int)]) rfl (.cell rfl Try.isAgg31 Try.sizeOf31 f rfl (.tmp rfl (.cell rfl Try.isAgg23 Try.sizeOf23 f_1 rfl (.tmp rfl .nil)))) (by simp) ?_
    exact ⟨0, [], none, 0, 0, nul32, er, rfl, OwnH.nil_, by rw [if_pos (by omega)], rfl, hw⟩
  rw [if_neg (show ¬ er ≠ 0 by omega)]
  refine rk_skip ?_
  refine rk_seq ?_
  refine rk_seq ?_
  refine rk_region ?_
  refine wl_p (fun _ => o_move rfl) ?_
  refine wl_p (fun _ => o_len (t := 26) Try.underlying26 rfl) ?_
  refine wl_p (fun _ => o_move rfl) ?_
  refine wl_p (fun _ => o_sub rfl rfl (by omega) (by omega)) ?_
  refine wl_p (fun _ => o_move rfl) ?_
  refine wl_p (fun _ => o_add rfl rfl (by omega) (by omega)) ?_
  refine wl_p (fun _ => o_lt rfl rfl) ?_
  refine wl_nil ?_
  refine rk_if rfl (fun h33 => ?_) (fun h33 => ?_)
  · refine rk_seq ?_
    refine rk_region ?_
    refine wl_p (fun _ => (o_buildg [_, _] Try.underlying31 Try.zeroValue31 (by rfl) (by rfl) rfl (by rfl) (by rfl) (fun _ => by kernel_rfl))) ?_
    refine wl_p (fun _ => (o_buildga [_, _, _, _, _, _, _, _, _, _, _, _, _, _, _, _, _, _, _, _, _, _, _, _, _, _, _, _, _, _, _, _] Try.underlying23 Try.sizeOf5 Try.zeroValue23 (by rfl) (by rfl) rfl (by rfl) (by rfl) (fun _ => by kernel_rfl))) ?_
    refine wl_storega Try.sizeOf31 rfl rfl (by rfl) (by decide) f4 (by rfl) ?_
    rintro w_1 f g e
    have s := g.size
    replace hw := hw.trans (below_of_grownBy g.g hw.size (by omega))
    replace f6 := f6.k g.g (ap_some (by omega))
    replace f2 := f2.k g.g (ap_some (by omega))
    clear f4
    refine wl_p (fun _ => o_assign rfl) ?_
    refine wl_storega Try.sizeOf23 rfl rfl (by rfl) (by decide) f6 (by rfl) ?_
    rintro w_2 f_1 g_1 e_1
    have s_1 := g_1.size
    replace hw := hw.trans (below_of_grownBy g_1.g hw.size (by omega))
    replace f2 := f2.k g_1.g (ap_some (by omega))
    replace f := f.k g_1.g (ap_some (by omega))
    clear f6
    refine wl_p (fun _ => o_assign rfl) ?_
    refine wl_nil ?_
    refine ret_any (vs := [.agg #[.int .u8 0, .slice none 0 0], .int .i64 0, .agg (B8 nul32).toArray, .int .i64 5]) rfl (.cell rfl Try.isAgg31 Try.sizeOf31 f rfl (.tmp rfl (.cell rfl Try.isAgg23 Try.sizeOf23 f_1 rfl (.tmp rfl .nil)))) (by simp) ?_
    exact ⟨0, [], none, 0, 0, nul32, 5, rfl, OwnH.nil_, by rw [if_pos (by omega)], rfl, hw⟩
  rw [if_neg (show ¬ b.length - at0 < sz + 8 by omega)]
  refine rk_skip ?_
  refine rk_seq ?_
  refine rk_region ?_
  refine wl_p (fun _ => o_move rfl) ?_
  refine wl_p (fun _ => o_move rfl) ?_
  refine wl_p (fun _ => o_add rfl rfl (by omega) (by omega)) ?_
  refine wl_p (fun _ => o_assign rfl) ?_
  refine wl_nil ?_
  refine rk_seq ?_
  refine rk_region ?_
  refine wl_p (fun _ => o_move rfl) ?_
  refine wl_p (fun _ => o_move rfl) ?_
  refine wl_p (fun _ => o_move rfl) ?_
  refine wl_p (fun _ => o_move rfl) ?_
  refine wl_p (fun _ => o_move rfl) ?_
  obtain ⟨t, ht⟩ : ∃ t, at0 + sz = t := ⟨_, rfl⟩
  rw [show ((at0 : Int) + (sz : Int)) = (t : Int) by omega]
  have hpl : p.length = sz := by rw [← hp, List.length_take, List.length_drop]; omega
  have hyl : y.length = 8 := by rw [← hy, List.length_take, List.length_drop]; omega
  have hR : Rd w (cutA A t 1 at0) p := by
    have h1 := (hb.take (k := t) (by omega)).cut (c := t) (k := at0) (by rw [List.length_take]; omega) (by rw [List.length_take]; omega)
    rwa [List.drop_take, show t - at0 = sz by omega, hp] at h1
  refine wl_p (fun _ => o_slice3B at0 t t Try.underlying26 Try.sizeOf5 rfl rfl rfl rfl rfl rfl rfl (by omega) (Nat.le_refl _) (by omega)) ?_
  refine wl_call rfl (C_bClone _ (hR.u hw) (by omega) (by omega)) ?_
  rintro v45 w45 ⟨A45, ⟨c45, ⟨rfl, ⟨f45, b45⟩⟩⟩⟩
  have qf45 := f45.cap
  have s45 := b45.size
  replace hw := hw.trans (b45.mono hw.size)
  replace f6 := f6.u b45
  replace f2 := f2.u b45
  replace f4 := f4.u b45
  refine wl_p (fun _ => (o_buildg [_, _] Try.underlying31 Try.zeroValue31 (by rfl) (by rfl) rfl (by rfl) (by rfl) (fun _ => by kernel_rfl))) ?_
  refine wl_allocg [_, _] Try.zeroValue31 (by rfl) ?_
  rintro g13 w13 f13 b13 i13 i13_1
  have s13 := b13.size
  replace hw := hw.trans (b13.mono hw.size)
  replace f4 := f4.u b13
  replace f2 := f2.u b13
  replace f6 := f6.u b13
  replace f45 := f45.u b13
  refine wl_storega Try.sizeOf31 rfl rfl (by rfl) (oneCell_of (by rfl)) f13 (by rfl) ?_
  rintro w_1 f g e
  have s := g.size
  replace hw := hw.trans (below_of_grownBy g.g hw.size (by omega))
  replace f45 := f45.k g.g (ap_some (by omega))
  replace f6 := f6.k g.g (ap_some (by omega))
  replace f2 := f2.k g.g (ap_some (by omega))
  replace f4 := f4.k g.g (ap_some (by omega))
  clear f13
  refine wl_nil ?_
  refine rk_seq ?_
  refine rk_region ?_
  refine wl_r (o_ldBa Try.isAgg23 Try.sizeOf23 rfl f2 hd) ?_
  refine wl_r (o_loadag Try.isAgg31 Try.sizeOf31 rfl f (by rfl)) ?_
  refine wl_call rfl (C_Next _ f45.to_Rd rfl (by omega) hd hr) ?_
  rintro v49 w49 ⟨rfl, b49⟩
  have s49 := b49.size
  replace hw := hw.trans (b49.mono hw.size)
  replace f4 := f4.u b49
  replace f2 := f2.u b49
  replace f6 := f6.u b49
  replace f45 := f45.u b49
  replace f := f.u b49
  refine wl_allocB Try.underlying23 Try.zeroValue23 (by rfl) ?_
  rintro g14 w14 f14 b14 i14 i14_1
  have s14 := b14.size
  replace hw := hw.trans (b14.mono hw.size)
  replace f := f.u b14
  replace f45 := f45.u b14
  replace f6 := f6.u b14
  replace f2 := f2.u b14
  replace f4 := f4.u b14
  refine wl_stBa Try.sizeOf23 rfl f14 rfl h32 (by rfl) ?_
  rintro w_2 f_1 g_1 e_1
  have s_1 := g_1.size
  replace hw := hw.trans (below_of_grownBy g_1.g hw.size (by omega))
  replace f4 := f4.k g_1.g (ap_some (by omega))
  replace f2 := f2.k g_1.g (ap_some (by omega))
  replace f6 := f6.k g_1.g (ap_some (by omega))
  replace f45 := f45.k g_1.g (ap_some (by omega))
  replace f := f.k g_1.g (ap_some (by omega))
  clear f14
  refine wl_nil ?_
  refine rk_seq ?_
  refine rk_seq ?_
  refine rk_draw (id := 9) (none) [0, 0, 0, 0, 8, 22, 33, 64] [0, 0, 0, 0, 8, 30, 63, 127] 64 0 [(.p, 0), (.p, 1), (.p, 2), (.p, 3), (.p, 4), (.p, 5), (.l, 6), (.p, 7)] (by kernel_rfl) (by kernel_rfl) (by kernel_rfl) (by kernel_rfl) (by kernel_rfl) ?_
  replace hw := hw.drew
  replace f := f.d
  replace f45 := f45.d
  replace f6 := f6.d
  replace f2 := f2.d
  replace f4 := f4.d
  replace f_1 := f_1.d
  refine wl_p (fun _ => (o_slArrHi (8) Try.underlying23 Try.sizeOf5 rfl rfl (by omega) (by omega))) ?_
  refine wl_p (fun _ => o_move rfl) ?_
  refine wl_p (fun _ => o_move rfl) ?_
  refine wl_p (fun _ => o_move rfl) ?_
  refine wl_p (fun _ => o_add rfl rfl (by omega) (by omega)) ?_
  refine wl_slBB Try.u8 (t) (t + 8) rfl rfl rfl (hb.u hw) rfl rfl (by omega) (by omega) (by omega) (by omega) ?_
  rintro A55 c55 f55 i55 i55_1
  rw [show t + 8 - t = 8 by omega] at f55 i55 ⊢
  rw [ht] at hy
  rw [hy] at f55
  have hr8 := rd_pre f_1 8
  refine wl_call rfl (C_bEqual _ hr8 f55 (by omega) (by omega)) ?_
  rintro v56 w56 ⟨rfl, b56⟩
  simp only [drew_size] at b56
  have s56 := b56.size
  simp only [drew_size] at s56
  replace hw := hw.trans (b56.mono hw.size)
  replace hr8 := hr8.u b56
  replace f55 := f55.u b56
  replace f_1 := f_1.u b56
  replace f4 := f4.u b56
  replace f2 := f2.u b56
  replace f6 := f6.u b56
  replace f45 := f45.u b56
  replace f := f.u b56
  refine wl_p (fun _ => o_not rfl) ?_
  refine wl_nild ?_
  by_cases hq : r.take 8 = y
  · rw [decide_eq_true hq, if_pos hq]
    refine rk_false rfl ?_
    refine rk_skip ?_
    refine rk_seq ?_
    refine rk_draw (id := 11) (some g4) [0, 0, 2, 0, 1, 23, 63, 127] [0, 0, 2, 0, 1, 23, 63, 127] 80 16 [(.r, 0), (.p, 1), (.p, 2), (.s, 3), (.c, 4), (.p, 5), (.l, 6), (.p, 7)] (by kernel_rfl) (by kernel_rfl) (by kernel_rfl) (by kernel_rfl) (by kernel_rfl) ?_
    replace hw := hw.drew
    replace f := f.d
    replace f45 := f45.d
    replace f6 := f6.d
    replace f2 := f2.d
    replace f4 := f4.d
    replace f_1 := f_1.d
    replace f55 := f55.d
    replace hr8 := hr8.d
    refine wl_r (o_loadag Try.isAgg31 Try.sizeOf31 rfl f (by rfl)) ?_
    refine wl_p (fun _ => o_move rfl) ?_
    refine wl_p (fun _ => o_add rfl rfl (by omega) (by omega)) ?_
    refine wl_s (fun _ hk => (o_ldBa Try.isAgg23 Try.sizeOf23 rfl (f_1.k hk (ap_some (by omega))) h32)) ?_
    refine wl_storega Try.sizeOf31 rfl rfl (by rfl) (oneCell_of (by rfl)) f4 (by rfl) ?_ (hq := .inr rfl)
    rintro w_3 f_2 g_2 e_2
    simp only [drew_size] at e_2
    have s_2 := g_2.size
    simp only [drew_size] at s_2
    replace hw := hw.trans (below_of_grownBy g_2.g hw.size (by omega))
    replace f_1 := f_1.k g_2.g (ap_some (by omega))
    replace f2 := f2.k g_2.g (ap_some (by omega))
    replace f6 := f6.k g_2.g (ap_some (by omega))
    replace f45 := f45.k g_2.g (ap_some (by omega))
    replace f := f.k g_2.g (ap_some (by omega))
    clear hr8
    clear f55
    clear f4
    refine wl_p (fun _ => o_assign rfl) ?_
    refine wl_stBa Try.sizeOf23 rfl f6 rfl h32 (by rfl) ?_
    rintro w_4 f_3 g_3 e_3
    have s_3 := g_3.size
    replace hw := hw.trans (below_of_grownBy g_3.g hw.size (by omega))
    replace f := f.k g_3.g (ap_some (by omega))
    replace f45 := f45.k g_3.g (ap_some (by omega))
    replace f2 := f2.k g_3.g (ap_some (by omega))
    replace f_1 := f_1.k g_3.g (ap_some (by omega))
    replace f_2 := f_2.k g_3.g (ap_some (by omega))
    clear f6
    refine wl_p (fun _ => o_assign rfl) ?_
    refine wl_nild ?_
    refine ret_any (vs := [.agg #[.int .u8 (k8.toNat : Int), .slice A45 p.length c45], .int .i64 ((t : Int) + 8), .agg (B8 r).toArray, .int .i64 0]) rfl (.cell rfl Try.isAgg31 Try.sizeOf31 f_2 rfl (.tmp rfl (.cell rfl Try.isAgg23 Try.sizeOf23 f_3 (by rw [B8_length, h32]) (.tmp rfl .nil)))) (by simp) ?_
    exact ⟨k8, p, A45, c45, t + 8, r, 0, rfl, f45.base (by omega) (by omega), by rw [ht], h32, hw⟩
  · rw [decide_eq_false hq, if_neg hq]
    refine rk_true rfl ?_
    refine rk_seq ?_
    refine rk_region ?_
    refine wl_p (fun _ => (o_buildg [_, _] Try.underlying31 Try.zeroValue31 (by rfl) (by rfl) rfl (by rfl) (by rfl) (fun _ => by kernel_rfl))) ?_
    refine wl_p (fun _ => (o_buildga [_, _, _, _, _, _, _, _, _, _, _, _, _, _, _, _, _, _, _, _, _, _, _, _, _, _, _, _, _, _, _, _] Try.underlying23 Try.sizeOf5 Try.zeroValue23 (by rfl) (by rfl) rfl (by rfl) (by rfl) (fun _ => by kernel_rfl))) ?_
    refine wl_storega Try.sizeOf31 rfl rfl (by rfl) (by decide) f4 (by rfl) ?_
    rintro w_3 f_2 g_2 e_2
    have s_2 := g_2.size
    replace hw := hw.trans (below_of_grownBy g_2.g hw.size (by omega))
    replace f := f.k g_2.g (ap_some (by omega))
    replace f45 := f45.k g_2.g (ap_some (by omega))
    replace f6 := f6.k g_2.g (ap_some (by omega))
    replace f2 := f2.k g_2.g (ap_some (by omega))
    replace f_1 := f_1.k g_2.g (ap_some (by omega))
    clear f4
    clear f55
    clear hr8
    refine wl_p (fun _ => o_assign rfl) ?_
    refine wl_storega Try.sizeOf23 rfl rfl (by rfl) (by decide) f6 (by rfl) ?_
    rintro w_4 f_3 g_3 e_3
    have s_3 := g_3.size
    replace hw := hw.trans (below_of_grownBy g_3.g hw.size (by omega))
    replace f_1 := f_1.k g_3.g (ap_some (by omega))
    replace f2 := f2.k g_3.g (ap_some (by omega))
    replace f45 := f45.k g_3.g (ap_some (by omega))
    replace f := f.k g_3.g (ap_some (by omega))
    replace f_2 := f_2.k g_3.g (ap_some (by omega))
    clear f6
    refine wl_p (fun _ => o_assign rfl) ?_
    refine wl_nil ?_
    refine ret_any (vs := [.agg #[.int .u8 0, .slice none 0 0], .int .i64 0, .agg (B8 nul32).toArray, .int .i64 4]) rfl (.cell rfl Try.isAgg31 Try.sizeOf31 f_2 rfl (.tmp rfl (.cell rfl Try.isAgg23 Try.sizeOf23 f_3 rfl (.tmp rfl .nil)))) (by simp) ?_
    exact ⟨0, [], none, 0, 0, nul32, 4, rfl, OwnH.nil_, rfl, rfl, hw⟩
end Go.Proofs.Ytpjedpmbninfcaa
