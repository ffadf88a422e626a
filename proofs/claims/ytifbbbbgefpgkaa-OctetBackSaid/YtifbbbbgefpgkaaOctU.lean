/-
  The walk of OctetBack.
-/
import Derived.Test.YtifbbbbgefpgkaaOctR
import Derived.Test.YtifbbbbgefpgkaaOctQ
import Derived.Test.YtifbbbbgefpgkaaOctK
import Derived.Test.YtifbbbbgefpgkaaOctL
namespace Go.Proofs.Ytifbbbbgefpgkaa
open Go.RowKit

theorem Blk.rd8 {w : World} {g t : Nat} {l : List UInt8} (h : Blk w g t (B8 l)) : Rd w (some ⟨g, 0, none⟩) l :=
  ⟨by rw [B8_length]; omega, fun _ => ⟨g, 0, rfl, fun j u hu => by rw [h.cell, Nat.zero_add]; exact hu⟩⟩
theorem mask_val (size : Int) : ((18446744073709551615 : Int) / 2 ^ min (64 - 8 * (clampN size : Int)).toNat IntKind.u64.bits) = ((256 ^ clampN size - 1 : Nat) : Int) := by
  obtain ⟨h1, h2, -⟩ := clampN_bd size
  have h : ∀ k : Fin 9, 1 ≤ k.val → ((18446744073709551615 : Int) / 2 ^ min (64 - 8 * (k.val : Int)).toNat IntKind.u64.bits) = ((256 ^ k.val - 1 : Nat) : Int) := by decide +kernel
  exact h ⟨clampN size, by omega⟩ h1
theorem mask_and (size : Int) (m : Nat) (hm : m < u64) : bits .and .u64 (m : Int) ((256 ^ clampN size - 1 : Nat) : Int) = ((m % 256 ^ clampN size : Nat) : Int) := by
  obtain ⟨h1, h2, -⟩ := clampN_bd size
  have hp : 256 ^ clampN size ≤ 256 ^ 8 := Nat.pow_le_pow_right (by omega) h2
  have e : 256 ^ clampN size = 2 ^ (8 * clampN size) := by rw [Nat.pow_mul]
  rw [u64_and_nat m _ hm (by have : (256 : Nat) ^ 8 = 18446744073709551616 := rfl; have := Nat.pow_pos (n := clampN size) (show 0 < 256 by omega); omega), e, Nat.and_two_pow_sub_one_eq_mod]
theorem L_RLeft {g : Nat} {x : List UInt8} {e : Nat} (w : World) (hR : Rdr w g (x, e)) :
    CallsR Try.prog 31 [.pointer (some ⟨g, 0, none⟩)] w fun v w' => v = .int .i64 x.length ∧ w.drew = w' := K_RLeft w hR
theorem rEnd_nil : rEnd ([], 0) = 0 := rfl

set_option maxHeartbeats 1000000 in
theorem C_OctetBack (A0 : Option Addr) (c0 : Nat) (b : List UInt8) (w : World) (hr0 : Rd w A0 b) (hc0 : b.length ≤ c0) (_hm0 : c0 ≤ maxLen) (A1 : Option Addr) (c1 : Nat) (p : List UInt8) (hr1 : Rd w A1 p) (_hc1 : p.length ≤ c1) (_hm1 : c1 ≤ maxLen)
    (n : Int) (wn : (Lit.int .u64 n).wf = true) (m : Int) (wm : (Lit.int .u64 m).wf = true) (d : List UInt8) (hd : d.length = 32) (size : Int) (ws : (Lit.int .i64 size).wf = true) :
    CallsR Try.prog 8 [.slice A0 b.length c0, .slice A1 p.length c1, .int .u64 n, .int .u64 m, .agg (B8 d).toArray, .int .i64 size] w fun v w' => v = .bool true ∧ Below w.heap.size w w' := by
  have bn := bounds_u64 wn
  have bm := bounds_u64 wm
  have bs := bounds_i64 ws
  obtain ⟨n, rfl⟩ := Int.eq_ofNat_of_zero_le bn.1
  obtain ⟨m, rfl⟩ := Int.eq_ofNat_of_zero_le bm.1
  have hn : n < u64 := by unfold u64; omega
  have hm : m < u64 := by unfold u64; omega
  obtain ⟨hk1, hk2, hk3⟩ := clampN_bd size
  have hcl : min (max size 1) 8 = (clampN size : Int) := by omega
  clear wn ws bn bm
  refine callsR Try.func8 rfl rfl (by kernel_rfl) rfl ?_
  refine rk_seq ?_
  refine rk_region ?_
  refine wl_box (B8 d) rfl rfl ?_
  intro w0 hB0 hb0 hz0
  refine wl_p (fun _ => o_assign rfl) ?_
  refine wl_nil ?_
  refine rk_seq ?_
  refine rk_seq ?_
  refine rk_region ?_
  refine wl_call rfl (C_lives01 w0) ?_
  rintro _ w1 ⟨rfl, hb1⟩
  have s0 := hb0.size
  have hw1 := hb0.trans (hb1.mono s0)
  have s1 := hb1.size
  have hB1 := hB0.under hb1
  refine wl_p (fun _ => o_not rfl) ?_
  refine wl_nil ?_
  refine rk_false rfl ?_
  refine rk_skip ?_
  refine rk_seq ?_
  refine rk_seq ?_
  refine rk_region ?_
  refine wl_p (fun _ => o_move rfl) ?_
  refine wl_p (fun _ => o_len (t := 24) Try.underlying24 rfl) ?_
  refine wl_p (fun _ => o_gt rfl rfl) ?_
  refine wl_p (fun _ => o_move rfl) ?_
  refine wl_bool 26 rfl (fun h14 => ?_) (fun h14 => ?_)
  · refine wl_off ?_
    refine wl_off ?_
    refine wl_off ?_
    refine wl_p (fun _ => o_pick_t rfl rfl) ?_
    refine wl_nil ?_
    refine rk_true rfl ?_
    refine rk_seq ?_
    refine rk_region ?_
    refine wl_p (fun _ => o_assign rfl) ?_
    refine wl_nil ?_
    refine ret1 rfl rfl ?_
    exact ⟨rfl, hw1⟩
  have hb3000 : b.length ≤ 3000 := by have := of_decide_eq_false h14; omega
  refine wl_p (fun _ => o_move rfl) ?_
  refine wl_p (fun _ => o_len (t := 24) Try.underlying24 rfl) ?_
  refine wl_p (fun _ => o_gt rfl rfl) ?_
  refine wl_p (fun _ => o_pick_f rfl rfl) ?_
  refine wl_nil ?_
  refine rk_if rfl (fun h => ?_) (fun h => ?_)
  · refine rk_seq ?_
    refine rk_region ?_
    refine wl_p (fun _ => o_assign rfl) ?_
    refine wl_nil ?_
    refine ret1 rfl rfl ?_
    exact ⟨rfl, hw1⟩
  have hp3000 : p.length ≤ 3000 := by omega
  have hw1 := hw1.drew
  refine rk_skip ?_
  refine rk_seq ?_
  refine rk_drawo (id := 5) (none) [0, 1, 0, 6, 0, 24, 0, 0, 224, 0, 768, 2047] [0, 1, 0, 7, 0, 31, 0, 0, 255, 0, 1023, 2047] 1322 0 [0, 2, 4, 6, 7, 9, 1, 3, 5, 8, 10, 11] [(.p, 0), (.p, 2), (.p, 4), (.p, 6), (.p, 7), (.p, 9), (.l, 1), (.l, 3), (.l, 5), (.l, 8), (.l, 10), (.p, 11)] (by kernel_rfl) (by kernel_rfl) (by kernel_rfl) (by kernel_rfl) (by kernel_rfl) ?_
  dsimp only [inOrder, nthOp]
  refine wl_p (fun _ => o_move rfl) ?_
  refine wl_p (fun _ => o_move rfl) ?_
  refine wl_p (fun _ => o_move rfl) ?_
  refine wl_p (fun _ => o_move rfl) ?_
  refine wl_p (fun _ => o_move rfl) ?_
  refine wl_p (fun _ => o_slice_arr (t := 43) Try.underlying43 Try.sizeOf5 rfl) ?_
  refine wl_call rfl (C_Number (A := none) (l := []) 0 n _ (Rd.nil _ _) hn (by simp)) ?_
  rintro _ w2 ⟨A2, c2, rfl, hown2, hb2⟩
  have hw2 := hw1.trans (hb2.mono hw1.size)
  have hB2 := hB1.drew.under hb2
  rw [List.nil_append] at hown2 ⊢
  have e2 : (enc (n)).length ≤ 9 := by rw [enc_length]; exact (room_pos _).2
  have e3 : (enc (m)).length ≤ 9 := by rw [enc_length]; exact (room_pos _).2
  have e4 : (enc (p.length)).length ≤ 9 := by rw [enc_length]; exact (room_pos _).2
  refine wl_call rfl (C_Block c2 c1 w2 hown2.rd (hr1.below hw2) (by omega)) ?_
  rintro _ w3 ⟨A3, c3, rfl, hown3, hb3⟩
  have hw3 := hw2.trans (hb3.mono hw2.size)
  have hB3 := hB2.under hb3
  refine wl_call rfl (C_Number c3 m w3 hown3.rd hm (by simp; omega)) ?_
  rintro _ w4 ⟨A4, c4, rfl, hown4, hb4⟩
  have hw4 := hw3.trans (hb4.mono hw3.size)
  have hB4 := hB3.under hb4
  refine wl_call rfl (C_Word c4 m size w4 hown4.rd hm (by simp; omega)) ?_
  rintro _ w5 ⟨A5, c5, rfl, hown5, hb5⟩
  have hw5 := hw4.trans (hb5.mono hw4.size)
  have hB5 := hB4.under hb5
  have e5 : (leB (clampN size) m).length = clampN size := leB_length _ _
  have hlx : (enc n ++ enc p.length ++ p ++ enc m ++ leB (clampN size) m ++ d).length ≤ 4000 := by simp; omega
  refine wl_app (m := d) Try.u8 rfl rfl hown5 rfl hd.symm hB5.rd8 (by simp; omega) hb5.size ?_
  intro A6 c6 w6 hown6 hg6 hk6 hb6
  have hw6 := hw5.trans (hb6.mono hw4.size)
  have hB6 := hB5.below hb6 hB4.lt
  refine wl_p (fun _ => o_assign rfl) ?_
  refine wl_nild ?_
  refine rk_seq ?_
  refine rk_region ?_
  refine wl_p (fun _ => o_move rfl) ?_
  refine wl_call rfl (K_Read c6 rfl w6 hown6.rd (by omega)) ?_
  rintro _ w7 ⟨gr, rfl, hgr, hR7, hb7⟩
  have hw7 := hw6.trans (hb7.mono hw6.size)
  have hB7 := hB6.under hb7
  have s6 := hw6.size
  have hwr : w.heap.size ≤ gr := by omega
  have h0r : w.heap.size < gr := by have := hB6.lt; omega
  have x1 : rNumber (enc n ++ enc p.length ++ p ++ enc m ++ leB (clampN size) m ++ d, 0) = (n, (enc p.length ++ p ++ (enc m ++ (leB (clampN size) m ++ d)), 0)) := by
    simp only [List.append_assoc]
    exact rNumber_enc n hn _
  have x2 : rBlock (enc p.length ++ p ++ (enc m ++ (leB (clampN size) m ++ d)), 0) = (p, (enc m ++ (leB (clampN size) m ++ d), 0)) := rBlock_enc p _ (by omega)
  have x3 : rNumber (enc m ++ (leB (clampN size) m ++ d), 0) = (m, (leB (clampN size) m ++ d, 0)) := rNumber_enc m hm _
  have x4 := rWord_le size m d
  have x5 := rDigest_all d hd
  refine wl_p (fun _ => o_assign rfl) ?_
  refine wl_nil ?_
  refine rk_seq ?_
  refine rk_region ?_
  refine wl_p (fun _ => o_move rfl) ?_
  refine wl_p (fun _ => o_max rfl rfl) ?_
  refine wl_p (fun _ => o_asi (o_min rfl rfl) hcl) ?_
  have hk8 : (8 : Int) * (clampN size : Int) ≤ 64 := by omega
  refine wl_p (fun _ => o_assign rfl) ?_
  refine wl_nil ?_
  refine rk_seq ?_
  refine rk_region ?_
  refine wl_p (fun _ => o_move rfl) ?_
  refine wl_p (fun _ => o_mul rfl rfl (by omega) (by omega)) ?_
  refine wl_p (fun _ => o_sub rfl rfl (by omega) (by omega)) ?_
  refine wl_p (fun _ => o_convu64 (src := 3) (dst := 26) Try.underlying3 Try.underlying26 rfl (by omega) (by omega)) ?_
  refine wl_p (fun _ => o_asi (o_shr rfl rfl (by omega)) (mask_val size)) ?_
  have hw8 := hw7.drew
  refine wl_p (fun _ => o_assign rfl) ?_
  refine wl_nil ?_
  refine rk_seq ?_
  refine rk_seq ?_
  refine rk_drawo (id := 9) (some gr) [0, 1, 0, 6, 10, 16, 48, 80, 16, 272, 656, 1040, 2112, 4096, 12288, 4096, 53248, 69632, 147456, 262144, 262144, 1835008, 262144, 262144, 12845056, 19136512, 33816576, 69206016, 134217728, 402653184, 134217728, 1744830464, 2281701376, 4831838208, 8589934592, 25769803776, 42949672960, 77309411328] [0, 1, 0, 7, 15, 31, 63, 127, 31, 287, 1023, 2047, 4095, 8191, 16383, 8191, 65535, 131071, 262143, 524287, 524287, 2097151, 524287, 524287, 13107199, 33554431, 67108863, 134217727, 268435455, 536870911, 268435455, 2147483647, 4294967295, 8589934591, 17179869183, 34359738367, 68719476735, 137438953471] 34898722882 536870976 [0, 2, 1, 3, 4, 5, 8, 9, 6, 7, 10, 11, 12, 13, 15, 14, 16, 17, 18, 19, 20, 22, 23, 24, 21, 25, 26, 27, 28, 30, 29, 31, 32, 33, 34, 35, 36, 37] [(.p, 0), (.p, 2), (.l, 1), (.p, 3), (.p, 4), (.p, 5), (.p, 8), (.s, 9), (.c, 6), (.r, 7), (.p, 10), (.p, 11), (.p, 12), (.p, 13), (.p, 15), (.l, 14), (.p, 16), (.p, 17), (.p, 18), (.p, 19), (.p, 20), (.p, 22), (.p, 23), (.p, 24), (.l, 21), (.p, 25), (.p, 26), (.p, 27), (.p, 28), (.s, 30), (.c, 29), (.p, 31), (.p, 32), (.p, 33), (.p, 34), (.l, 35), (.p, 36), (.p, 37)] (by kernel_rfl) (by kernel_rfl) (by kernel_rfl) (by kernel_rfl) (by kernel_rfl) ?_; dsimp only [inOrder, nthOp]
  refine wl_p (fun _ => o_move rfl) ?_
  refine wl_p (fun _ => o_move rfl) ?_
  refine wl_call rfl (K_RNumber w7.drew hR7.drew) ?_
  rintro _ w8 ⟨rfl, hg8, hR8⟩
  rw [x1] at hR8 ⊢
  replace hw8 := hw8.trans (below_of_grownBy hg8 hw8.size hwr)
  have hB8 := hB7.drew.grown hg8 (by intro e; injection e with e; omega)
  refine wl_p (fun _ => o_ne rfl rfl) ?_
  refine wl_p (fun _ => o_move rfl) ?_
  refine wl_know 56 false rfl (by simp) ?_
  refine wl_p (fun _ => o_move rfl) ?_
  refine wl_p (fun _ => o_move rfl) ?_
  refine wl_s (fun _ hk => o_str Try.underlying24 Try.underlying5 Try.underlying9 rfl rfl (hr1.below (hw8.trans (below_of_grownBy hk hw8.size hwr)))) ?_
  refine wl_call rfl (K_RBlock w8 hR8) ?_ (hq := .inr fun _ _ h => h.2.1)
  rintro _ w9 ⟨⟨A9, c9, rfl, hown9⟩, hg9, hR9⟩
  have hw9 := hw8.trans (below_of_grownBy hg9 hw8.size hwr)
  have hB9 := hB8.grown hg9 (by intro e; injection e with e; omega)
  rw [x2] at hR9 hown9 ⊢
  refine wl_r (o_str Try.underlying24 Try.underlying5 Try.underlying9 rfl rfl hown9.rd) ?_
  refine wl_p (fun _ => o_sne rfl rfl) ?_
  refine wl_p (fun _ => o_pick_f rfl rfl) ?_
  refine wl_p (fun _ => o_move rfl) ?_
  refine wl_know 64 false rfl (by simp) ?_
  refine wl_p (fun _ => o_move rfl) ?_
  refine wl_p (fun _ => o_move rfl) ?_
  refine wl_call rfl (K_RNumber w9 hR9) ?_
  rintro _ w10 ⟨rfl, hg10, hR10⟩
  rw [x3] at hR10 ⊢
  have hw10 := hw9.trans (below_of_grownBy hg10 hw9.size hwr)
  have hB10 := hB9.grown hg10 (by intro e; injection e with e; omega)
  refine wl_p (fun _ => o_ne rfl rfl) ?_
  refine wl_p (fun _ => o_pick_f rfl rfl) ?_
  refine wl_p (fun _ => o_move rfl) ?_
  refine wl_know 70 false rfl (by simp) ?_
  refine wl_p (fun _ => o_move rfl) ?_
  refine wl_p (fun _ => o_move rfl) ?_
  refine wl_p (fun _ => o_move rfl) ?_
  refine wl_p (fun _ => o_move rfl) ?_
  refine wl_p (fun _ => o_asi (o_and rfl rfl) (mask_and size m hm)) ?_
  refine wl_call rfl (K_RWord size w10 hR10) ?_
  rintro _ w11 ⟨rfl, hg11, hR11⟩
  rw [x4] at hR11 ⊢
  have hw11 := hw10.trans (below_of_grownBy hg11 hw10.size hwr)
  have hB11 := hB10.grown hg11 (by intro e; injection e with e; omega)
  refine wl_p (fun _ => o_ne rfl rfl) ?_
  refine wl_p (fun _ => o_pick_f rfl rfl) ?_
  refine wl_p (fun _ => o_move rfl) ?_
  refine wl_know 79 false rfl (by simp) ?_
  refine wl_p (fun _ => o_move rfl) ?_
  refine wl_s (fun _ hk => o_load_all (t := 43) Try.isAgg43 Try.sizeOf43 rfl (hB11.grown hk (by intro e; injection e with e; omega)) (by rw [B8_length]; exact hd)) ?_
  refine wl_call rfl (K_RDigest w11 hR11) ?_ (hq := .inr fun _ _ h => h.2.1)
  rintro _ w12 ⟨rfl, hg12, hR12⟩
  rw [x5] at hR12 ⊢
  have hw12 := hw11.trans (below_of_grownBy hg12 hw11.size hwr)
  refine wl_p (fun _ => o_ane (xs := d) (ys := d) Try.underlying43 Try.underlying5 Try.sizeOf5 (by kernel_rfl) rfl rfl hd hd) ?_
  refine wl_p (fun _ => o_pick_f rfl rfl) ?_
  refine wl_p (fun _ => o_move rfl) ?_
  refine wl_know 85 false rfl (by simp) ?_
  refine wl_p (fun _ => o_move rfl) ?_
  refine wl_call rfl (K_REnd w12 hR12) ?_
  rintro _ w13 ⟨rfl, hb13, hz13⟩
  have hw13 := hw12.trans (hb13.mono hw12.size)
  rw [rEnd_nil]
  refine wl_p (fun _ => o_ne rfl rfl) ?_
  refine wl_p (fun _ => o_pick_f rfl rfl) ?_
  refine wl_nild ?_
  refine rk_false rfl ?_
  refine rk_skip ?_
  refine rk_seq ?_
  refine rk_region ?_
  refine wl_p (fun _ => o_move rfl) ?_
  refine wl_call rfl (C_Own c0 rfl w13 (hr0.below hw13) (by omega)) ?_
  rintro _ w14 ⟨A14, c14, rfl, hown14, hb14⟩
  have hw14 := hw13.trans (hb14.mono hw13.size)
  refine wl_call rfl (K_Read c14 rfl w14 hown14.rd (by omega)) ?_
  rintro _ w15 ⟨g2, rfl, hg2, hR15, hb15⟩
  have hw15 := hw14.trans (hb15.mono hw14.size)
  have hw2g : w.heap.size ≤ g2 := by have := hw14.size; omega
  refine wl_p (fun _ => o_assign rfl) ?_
  refine wl_nil ?_
  refine rk_seq ?_
  refine rk_region ?_
  refine wl_p (fun _ => o_move rfl) ?_
  refine wl_call rfl (K_RNumber w15 hR15) ?_
  rintro _ w16 ⟨rfl, hg16, hR16⟩
  have hw16 := (hw15.trans (below_of_grownBy hg16 hw15.size hw2g)).drew
  obtain ⟨u, r, e, hy⟩ : ∃ u r e, rNumber (b, 0) = (u, (r, e)) := ⟨_, _, _, rfl⟩
  rw [hy] at hR16 ⊢
  simp only at hR16 ⊢
  refine wl_p (fun _ => o_assign rfl) ?_
  refine wl_nil ?_
  refine rk_seq ?_
  refine rk_seq ?_
  refine rk_drawo (id := 13) (none) [0, 1, 2, 6, 8, 24, 40, 8, 8, 264, 8, 1064, 2568, 4232, 8200, 16456, 32776] [0, 1, 3, 7, 15, 31, 63, 15, 15, 271, 15, 1087, 3903, 8127, 16319, 32767, 65535] 2082 2048 [0, 1, 2, 3, 4, 7, 8, 9, 10, 5, 6, 11, 12, 13, 14, 15, 16] [(.p, 0), (.l, 1), (.p, 2), (.p, 3), (.p, 4), (.p, 7), (.p, 8), (.p, 9), (.p, 10), (.l, 5), (.s, 6), (.c, 11), (.p, 12), (.p, 13), (.r, 14), (.p, 15), (.p, 16)] (by kernel_rfl) (by kernel_rfl) (by kernel_rfl) (by kernel_rfl) (by kernel_rfl) ?_
  dsimp only [inOrder, nthOp]
  refine wl_p (fun _ => o_move rfl) ?_
  replace hR16 := hR16.drew
  refine wl_call rfl (K_RErr w16.drew hR16) ?_
  rintro _ w17 ⟨rfl, rfl⟩
  refine wl_join 15 (fun fr w' => fr = [(0, .slice A0 b.length c0), (111, .bool false)] ∧ Below w.heap.size w w') ?_ (fun hj => ?_)
  rotate_left
  · refine wl_p (fun _ => o_eq rfl rfl) ?_
    refine wl_p (fun _ => o_move rfl) ?_
    refine wl_bool 98 rfl (fun h98 => ?_) (fun h98 => ?_)
    · have he : e = 0 := by have := of_decide_eq_true h98; omega
      subst he
      obtain ⟨hbu, hu⟩ := rNumber_back hy
      have hlb : b.length = (enc u).length + r.length := by rw [hbu, List.length_append]
      have htk : b.take (b.length - r.length) = enc u := by
        have e9 : b.length - r.length = (enc u).length := by omega
        rw [e9, hbu]; simp
      refine wl_p (fun _ => o_move rfl) ?_
      refine wl_p (fun _ => o_move rfl) ?_
      refine wl_p (fun _ => o_move rfl) ?_
      refine wl_p (fun _ => o_len (t := 24) Try.underlying24 rfl) ?_
      refine wl_p (fun _ => o_move rfl) ?_
      refine wl_call rfl (C_Number (A := none) (l := []) 0 u w16.drew (Rd.nil _ _) hu (by simp)) ?_
      rintro _ w18 ⟨A18, c18, rfl, hown18, hb18⟩
      rw [List.nil_append] at hown18 ⊢
      have hw18 := hw16.trans (hb18.mono hw16.size)
      refine wl_s (fun _ hk => o_str Try.underlying24 Try.underlying5 Try.underlying9 rfl rfl (hown18.rd.below (below_of_grown_none hk))) ?_
      refine wl_call rfl (L_RLeft w18 (hR16.below hb18)) ?_ (hq := .inr fun _ _ h => h.2 ▸ grownBy_drew _ _)
      rintro _ w19 ⟨rfl, rfl⟩
      have hrb := (hr0.below hw18).drew.take (k := b.length - r.length) (by omega)
      refine wl_p (fun _ => o_sub rfl rfl (by omega) (by omega)) ?_
      refine wl_p (fun _ => o_slice_hi (hi := b.length - r.length) Try.underlying24 Try.sizeOf5 rfl rfl (by omega) (by omega)) ?_
      refine wl_r (o_str Try.underlying24 Try.underlying5 Try.underlying9 rfl (by simp) hrb) ?_
      rw [htk]
      refine wl_p (fun _ => o_sne rfl rfl) ?_
      refine wl_p (fun _ => o_pick_t rfl rfl) ?_
      refine wl_know 111 false rfl (by simp) ?_
      exact wl_to hj (by repeat' constructor) ⟨rfl, hw18.drew⟩
    · refine wl_off ?_
      refine wl_off ?_
      refine wl_off ?_
      refine wl_off ?_
      refine wl_off ?_
      refine wl_off ?_
      refine wl_off ?_
      refine wl_off ?_
      refine wl_off ?_
      refine wl_off ?_
      refine wl_off ?_
      refine wl_off ?_
      refine wl_p (fun _ => o_pick_f rfl rfl) ?_
      exact wl_to hj (by repeat' constructor) ⟨rfl, hw16⟩
  rintro fr w20 ⟨rfl, hw20⟩
  refine wl_nild ?_
  refine rk_false rfl ?_
  refine rk_skip ?_
  refine rk_seq ?_
  refine rk_region ?_
  refine wl_p (fun _ => o_move rfl) ?_
  refine wl_call rfl (C_Own c0 rfl w20 (hr0.below hw20) (by omega)) ?_
  rintro _ w21 ⟨A21, c21, rfl, hown21, hb21⟩
  have hw21 := hw20.trans (hb21.mono hw20.size)
  refine wl_call rfl (K_Read c21 rfl w21 hown21.rd (by omega)) ?_
  rintro _ w22 ⟨g3, rfl, hg3, hR22, hb22⟩
  have hw22 := hw21.trans (hb22.mono hw21.size)
  have hw3g : w.heap.size ≤ g3 := by have := hw21.size; omega
  refine wl_p (fun _ => o_assign rfl) ?_
  refine wl_nil ?_
  refine rk_seq ?_
  refine rk_region ?_
  refine wl_p (fun _ => o_move rfl) ?_
  refine wl_call rfl (K_RBlock w22 hR22) ?_
  rintro _ w23 ⟨⟨A23, c23, rfl, hown23⟩, hg23, hR23⟩
  have hw23 := hw22.trans (below_of_grownBy hg23 hw22.size hw3g)
  obtain ⟨q, r2, e2, hy2⟩ : ∃ q r e, rBlock (b, 0) = (q, (r, e)) := ⟨_, _, _, rfl⟩
  rw [hy2] at hR23 hown23 ⊢
  simp only at hR23 hown23 ⊢
  refine wl_p (fun _ => o_assign rfl) ?_
  refine wl_nil ?_
  refine rk_seq ?_
  refine rk_drawo (id := 17) (none) [0, 1, 2, 6, 8, 24, 40, 8, 8, 264, 8, 1064, 2568, 4232, 8200, 16456, 32776, 131071] [0, 1, 3, 7, 15, 31, 63, 15, 15, 271, 15, 1087, 3903, 8127, 16319, 32767, 65535, 131071] 2082 2048 [0, 1, 2, 3, 4, 7, 8, 9, 10, 5, 6, 11, 12, 13, 14, 15, 16, 17] [(.p, 0), (.l, 1), (.p, 2), (.p, 3), (.p, 4), (.p, 7), (.p, 8), (.p, 9), (.p, 10), (.l, 5), (.s, 6), (.c, 11), (.p, 12), (.p, 13), (.r, 14), (.p, 15), (.p, 16), (.p, 17)] (by kernel_rfl) (by kernel_rfl) (by kernel_rfl) (by kernel_rfl) (by kernel_rfl) ?_
  dsimp only [inOrder, nthOp]
  refine wl_p (fun _ => o_move rfl) ?_
  refine wl_call rfl (K_RErr w23.drew hR23.drew) ?_
  rintro _ w24 ⟨rfl, rfl⟩
  have hw24 := hw23.drew
  refine wl_p (fun _ => o_ne rfl rfl) ?_
  refine wl_p (fun _ => o_move rfl) ?_
  refine wl_bool 120 rfl (fun h120 => ?_) (fun h120 => ?_)
  · refine wl_off ?_
    refine wl_off ?_
    refine wl_off ?_
    refine wl_off ?_
    refine wl_off ?_
    refine wl_off ?_
    refine wl_off ?_
    refine wl_off ?_
    refine wl_off ?_
    refine wl_off ?_
    refine wl_off ?_
    refine wl_off ?_
    refine wl_p (fun _ => o_pick_t rfl rfl) ?_
    refine wl_p (fun _ => o_assign rfl) ?_
    refine wl_nild ?_
    refine ret1 rfl rfl ?_
    exact ⟨rfl, hw24⟩
  have he : e2 = 0 := by have := of_decide_eq_false h120; omega
  subst he
  have hbu := rBlock_back hy2
  have hlb : b.length = (enc q.length ++ q).length + r2.length := by rw [hbu, List.length_append]
  have htk : b.take (b.length - r2.length) = enc q.length ++ q := by
    have e9 : b.length - r2.length = (enc q.length ++ q).length := by omega
    rw [e9, hbu]
    exact List.take_left' rfl
  have hq3 : q.length ≤ 3000 := by rw [List.length_append] at hlb; omega
  refine wl_p (fun _ => o_move rfl) ?_
  refine wl_p (fun _ => o_move rfl) ?_
  refine wl_p (fun _ => o_move rfl) ?_
  refine wl_p (fun _ => o_len (t := 24) Try.underlying24 rfl) ?_
  refine wl_p (fun _ => o_move rfl) ?_
  refine wl_call rfl (C_Block (A := none) (l := []) 0 c23 w23.drew (Rd.nil _ _) hown23.rd.drew (by simp; omega)) ?_
  rintro _ w25 ⟨A25, c25, rfl, hown25, hb25⟩
  rw [List.nil_append] at hown25 ⊢
  have hw25 := hw24.trans (hb25.mono hw24.size)
  refine wl_s (fun _ hk => o_str Try.underlying24 Try.underlying5 Try.underlying9 rfl rfl (hown25.rd.below (below_of_grown_none hk))) ?_
  refine wl_call rfl (L_RLeft w25 (hR23.drew.below hb25)) ?_ (hq := .inr fun _ _ h => h.2 ▸ grownBy_drew _ _)
  rintro _ w26 ⟨rfl, rfl⟩
  have hrb := (hr0.below hw25).drew.take (k := b.length - r2.length) (by omega)
  refine wl_p (fun _ => o_sub rfl rfl (by omega) (by omega)) ?_
  refine wl_p (fun _ => o_slice_hi (hi := b.length - r2.length) Try.underlying24 Try.sizeOf5 rfl rfl (by omega) (by omega)) ?_
  refine wl_r (o_str Try.underlying24 Try.underlying5 Try.underlying9 rfl (by simp) hrb) ?_
  rw [htk]
  refine wl_p (fun _ => o_seq rfl rfl) ?_
  refine wl_p (fun _ => o_pick_f rfl rfl) ?_
  refine wl_p (fun _ => o_assign rfl) ?_
  refine wl_nild ?_
  refine ret1 rfl rfl ?_
  exact ⟨congrArg Value.bool (decide_eq_true rfl), hw25.drew⟩
end Go.Proofs.Ytifbbbbgefpgkaa
