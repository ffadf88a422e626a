/-
  Walks of package octet: sizes, bytes of numbers.
-/
import Derived.Test.YtpjedpmbninfcaaOps2
import Derived.Test.YtpjedpmbninfcaaT8
import Derived.Test.YtpjedpmbninfcaaShelf
import Derived.Test.YtpjedpmbninfcaaOctS
namespace Go.Proofs.Ytpjedpmbninfcaa
open Go.RowKit

theorem C_clamp (n : Int) (w : World) : CallsR Try.prog 32 [.int .i64 n] w fun v w' => v = .int .i64 (max 1 (min n 8)) ∧ w = w' := by
  refine callsR Try.func32 rfl rfl (by kernel_rfl) rfl ?_
  refine rk_seq ?_
  refine rk_region ?_
  refine wl_p (fun _ => o_assign rfl) ?_
  refine wl_nil ?_
  refine rk_seq ?_
  refine rk_region ?_
  refine wl_p (fun _ => o_move rfl) ?_
  refine wl_p (fun _ => o_min rfl rfl) ?_
  refine wl_p (fun _ => o_max rfl rfl) ?_
  refine wl_p (fun _ => o_assign rfl) ?_
  refine wl_nil ?_
  refine ret1 rfl rfl ?_
  exact ⟨rfl, rfl⟩


theorem C_grown {A : Option Addr} {l : List UInt8} {k : Nat} (c : Nat) (hk : k = l.length) (n : Int) (w : World) (hr : Rd w A l) (hn : 0 ≤ n) (hl : l.length + n.toNat ≤ 140737488355328) :
    CallsR Try.prog 33 [.slice A k c, .int .i64 n] w fun v w' => ∃ A' c', v = .slice A' l.length c' ∧ Own w' w.heap.size A' c' l ∧ Below w.heap.size w w' := by
  subst hk
  refine callsR Try.func33 rfl rfl (by kernel_rfl) rfl ?_
  refine rk_seq ?_
  refine rk_region ?_
  refine wl_p (fun _ => o_assign rfl) ?_
  refine wl_nil ?_
  refine rk_seq ?_
  refine rk_region ?_
  refine wl_p (fun _ => o_move rfl) ?_
  refine wl_p (fun _ => o_len (t := 26) Try.underlying26 rfl) ?_
  refine wl_p (fun _ => o_move rfl) ?_
  refine wl_p (fun _ => o_add rfl rfl (by omega) (by omega)) ?_
  refine wl_make0 (n := l.length + n.toNat) Try.u8 rfl rfl (by omega) (by omega) ?_
  intro w9 hown9 hb9 hs9
  refine wl_p (fun _ => o_move rfl) ?_
  refine wl_app (s := []) Try.u8 rfl rfl hown9 rfl rfl (hr.below hb9) (by simp; omega) (by omega) ?_
  intro A11 c11 w11 hown11 hg11 hk11 hb11
  refine wl_p (fun _ => o_assign rfl) ?_
  refine wl_nil ?_
  refine ret1 rfl rfl ?_
  exact ⟨A11, c11, by simp, hown11, hb9.trans hb11⟩

/-- Numbers of 64 bits. -/
abbrev u64 : Nat := 18446744073709551616

theorem C_len64 (x : Int) (w : World) (h0 : 0 ≤ x) (h1 : x ≤ 18446744073709551615) : CallsR Try.prog 51 [.int .u64 x] w fun v w' => v = .int .i64 (Lib.bitLen x.toNat) ∧ w = w' :=
  ⟨⟨_, Try.func51, rfl, by kernel_rfl⟩, (Try.bits_Len64 x w h0 h1).mono fun _ _ h => ⟨_, h.1, rfl, h.2.symm⟩⟩

theorem C_size (n : Nat) (w : World) (hn : n < u64) : CallsR Try.prog 41 [.int .u64 n] w fun v w' => v = .int .i64 (room n) ∧ w = w' := by
  have ho : n ||| 1 < u64 := by have := or_one n; unfold u64 at *; omega
  refine callsR Try.func41 rfl rfl (by kernel_rfl) rfl ?_
  refine rk_seq ?_
  refine rk_region ?_
  refine wl_p (fun _ => o_assign rfl) ?_
  refine wl_nil ?_
  refine rk_seq ?_
  refine rk_region ?_
  refine wl_p (fun _ => o_move rfl) ?_
  refine wl_p (fun _ => o_asi (o_or rfl rfl) (u64_or_nat n 1 hn (by omega))) ?_
  refine wl_call rfl (C_len64 _ _ (by omega) (by unfold u64 at ho; omega)) ?_
  rintro _ w5 ⟨rfl, rfl⟩
  have hb := Lib.bitLen_le (n ||| 1) 64 (by omega) ho
  rw [show ((n ||| 1 : Nat) : Int).toNat = n ||| 1 from by omega]
  refine wl_p (fun _ => o_add rfl rfl (by omega) (by omega)) ?_
  refine wl_p (fun _ => o_quo rfl rfl (by omega) (by omega) (by omega)) ?_
  refine wl_p (fun _ => o_min rfl rfl) ?_
  refine wl_p (fun _ => o_assign rfl) ?_
  refine wl_nil ?_
  refine ret1 rfl rfl ?_
  exact ⟨by rw [← size_room n hn], rfl⟩

theorem Try.lit8 (c : Int) (w : World) : (Instr.buildSlice 26 1 ([0].zip [Value.int .u8 c]).toArray).run Try.prog w = .ok (.slice (some ⟨w.heap.size, 0, none⟩) 1 1) (w.alloc (.cells #[.int .u8 c] 5)) := by kernel_rfl

theorem C_number {B : Nat} {A : Option Addr} {l : List UInt8} (c : Nat) (n : Nat) (w : World) (hB : B ≤ w.heap.size) (hown : Own w B A c l) (hn : n < u64) (hl : l.length ≤ 140737488355200) :
    CallsR Try.prog 40 [.slice A l.length c, .int .u64 n] w fun v w' => ∃ A' c', v = .slice A' (l ++ enc n).length c' ∧ Own w' B A' c' (l ++ enc n) ∧ Below B w w' := by
  have hk := room_pos n
  refine callsR Try.func40 rfl rfl (by kernel_rfl) rfl ?_
  refine rk_seq ?_
  refine rk_region ?_
  refine wl_p (fun _ => o_assign rfl) ?_
  refine wl_nil ?_
  refine rk_seq ?_
  refine rk_region ?_
  refine wl_p (fun _ => o_move rfl) ?_
  refine wl_call rfl (C_size n w hn) ?_
  rintro _ w8 ⟨rfl, rfl⟩
  refine wl_p (fun _ => o_assign rfl) ?_
  refine wl_nil ?_
  refine rk_seq ?_
  refine rk_draw (id := 2) (none) [0, 0, 2, 4, 0, 0, 32, 64, 144, 256, 520, 1024, 2049, 8191] [0, 0, 2, 6, 0, 0, 32, 96, 240, 496, 1022, 2046, 4095, 8191] 6144 0 [(.p, 0), (.p, 1), (.p, 2), (.p, 3), (.p, 4), (.p, 5), (.p, 6), (.p, 7), (.p, 8), (.p, 9), (.p, 10), (.l, 11), (.l, 12), (.p, 13)] (by kernel_rfl) (by kernel_rfl) (by kernel_rfl) (by kernel_rfl) (by kernel_rfl) ?_
  refine wl_p (fun _ => o_move rfl) ?_
  refine wl_p (fun _ => o_move rfl) ?_
  refine wl_p (fun _ => o_sub rfl rfl (by omega) (by omega)) ?_
  refine wl_p (fun _ => o_shl rfl rfl (by omega)) ?_
  refine wl_p (fun _ => o_move rfl) ?_
  refine wl_p (fun _ => o_move rfl) ?_
  refine wl_p (fun _ => o_sub rfl rfl (by omega) (by omega)) ?_
  refine wl_p (fun _ => o_mul rfl rfl (by omega) (by omega)) ?_
  refine wl_p (fun _ => o_shr rfl rfl (by omega)) ?_
  refine wl_p (fun _ => o_convi (src := 25) (dst := 5) Try.underlying25 Try.underlying5 rfl) ?_
  refine wl_p (fun _ => o_asi (o_or rfl rfl) (first_byte n hn)) ?_
  refine wl_v (o_lit (is := [0]) (xs := [.tmp 19]) rfl (Try.lit8 _ _)) ?_
  refine wl_app (m := [first (room n) n]) Try.u8 rfl rfl ((hown.drew).alloc _) rfl rfl (rd_lit _ _ _ rfl) (by simp; omega) (by simp; omega) ?_
  intro A21 c21 w21 hown21 hg21 hk21 hb21
  refine wl_p (fun _ => o_assign rfl) ?_
  refine wl_nild ?_
  refine rk_seq ?_
  refine rk_seq ?_
  refine rk_region ?_
  refine wl_p (fun _ => o_move rfl) ?_
  refine wl_p (fun _ => o_sub rfl rfl (by omega) (by omega)) ?_
  refine wl_p (fun _ => o_assign rfl) ?_
  refine wl_nil ?_
  refine rk_block ?_
  have hb0 : Below B w w21 := ((Below.refl B w).drew.alloc hB _).trans hb21
  refine rk_loop (fun j fr w' => ∃ A' c' l' i, fr = [(0, .slice A' l'.length c'), (1, .int .u64 n), (6, .int .i64 i)] ∧ i = (j : Int) - 1 ∧ j ≤ 8 ∧ l' ++ beB j n = l ++ enc n ∧ Own w' B A' c' l' ∧ Below B w w')
    (n := room n - 1) (by repeat' constructor) ⟨A21, c21, _, _, rfl, by omega, by omega, by simp [enc], hown21, hb0⟩ ?_
  rintro j fr w2 ⟨A', c', l', i, rfl, hi, hj, hl', hown', hb'⟩
  have hlen : l'.length + j = l.length + room n := by have := congrArg List.length hl'; simpa [beB_length, enc_length] using this
  refine rk_seq ?_
  refine rk_seq ?_
  refine rk_region ?_
  refine wl_p (fun _ => o_move rfl) ?_
  refine wl_p (fun _ => o_ge rfl rfl) ?_
  refine wl_nil ?_
  refine rk_if rfl (fun h => ?_) (fun h => ?_)
  · obtain ⟨q, rfl⟩ := Int.eq_ofNat_of_zero_le h
    obtain rfl : j = q + 1 := by omega
    refine rk_skip ?_
    refine rk_seq ?_
    refine rk_block ?_
    refine rk_region ?_
    refine wl_p (fun _ => o_move rfl) ?_
    refine wl_p (fun _ => o_move rfl) ?_
    refine wl_p (fun _ => o_move rfl) ?_
    refine wl_p (fun _ => o_mul rfl rfl (by omega) (by omega)) ?_
    refine wl_p (fun _ => o_shr rfl rfl (by omega)) ?_
    refine wl_p (fun _ => o_asi (o_convi Try.underlying25 Try.underlying5 rfl) (byte_shift n q (by omega))) ?_
    refine wl_v (o_lit (is := [0]) (xs := [.tmp 33]) rfl (Try.lit8 _ _)) ?_
    have hs2 := hb'.size
    refine wl_app (m := [UInt8.ofNat (n / 256 ^ q)]) Try.u8 rfl rfl (hown'.alloc _) rfl rfl (rd_lit _ _ _ rfl) (by simp; omega) (by simp; omega) ?_
    intro A35 c35 w35 hown35 hg35 hk35 hb35
    refine wl_p (fun _ => o_assign rfl) ?_
    refine wl_nil ?_
    refine rk_blk ?_
    refine rk_region ?_
    refine wl_p (fun _ => o_move rfl) ?_
    refine wl_p (fun _ => o_sub rfl rfl (by omega) (by omega)) ?_
    refine wl_p (fun _ => o_assign rfl) ?_
    refine wl_nil ?_
    refine rk_again (m := q) (by repeat' constructor) ⟨A35, c35, _, _, rfl, rfl, by omega, by simpa [beB] using hl', hown35, (hb'.alloc (by omega) _).trans hb35⟩ (by omega)
  · obtain rfl : j = 0 := by omega
    refine rk_exit rfl ?_
    refine rk_seq ?_
    refine rk_region ?_
    refine wl_p (fun _ => o_move rfl) ?_
    refine wl_p (fun _ => o_assign rfl) ?_
    refine wl_nil ?_
    refine ret1 rfl rfl ?_
    simp only [beB, List.append_nil] at hl'
    subst hl'
    exact ⟨A', c', rfl, hown', hb'⟩

theorem C_Number {A : Option Addr} {l : List UInt8} (c : Nat) (n : Nat) (w : World) (hr : Rd w A l) (hn : n < u64) (hl : l.length ≤ 140737488355000) :
    CallsR Try.prog 27 [.slice A l.length c, .int .u64 n] w fun v w' => ∃ A' c', v = .slice A' (l ++ enc n).length c' ∧ Own w' w.heap.size A' c' (l ++ enc n) ∧ Below w.heap.size w w' := by
  have hk := room_pos n
  refine callsR Try.func27 rfl rfl (by kernel_rfl) rfl ?_
  refine rk_seq ?_
  refine rk_region ?_
  refine wl_p (fun _ => o_assign rfl) ?_
  refine wl_nil ?_
  refine rk_seq ?_
  refine rk_region ?_
  refine wl_p (fun _ => o_move rfl) ?_
  refine wl_p (fun _ => o_move rfl) ?_
  refine wl_call rfl (C_size n w hn) ?_
  rintro _ w1 ⟨rfl, rfl⟩
  refine wl_call rfl (C_grown c rfl _ w hr (by omega) (by omega)) ?_
  rintro _ w2 ⟨A2, c2, rfl, hown2, hb2⟩
  refine wl_p (fun _ => o_move rfl) ?_
  refine wl_call rfl (C_number c2 n w2 hb2.size hown2 hn (by omega)) ?_
  rintro _ w3 ⟨A3, c3, rfl, hown3, hb3⟩
  refine wl_p (fun _ => o_assign rfl) ?_
  refine wl_nil ?_
  refine ret1 rfl rfl ?_
  exact ⟨A3, c3, rfl, hown3, hb2.trans hb3⟩

theorem C_Block {A X : Option Addr} {l p : List UInt8} (c k : Nat) (w : World) (hr : Rd w A l) (hp : Rd w X p) (hl : l.length + p.length ≤ 140737488355000) :
    CallsR Try.prog 34 [.slice A l.length c, .slice X p.length k] w fun v w' => ∃ A' c', v = .slice A' (l ++ enc p.length ++ p).length c' ∧ Own w' w.heap.size A' c' (l ++ enc p.length ++ p) ∧ Below w.heap.size w w' := by
  have hk := room_pos p.length
  have hn : p.length < u64 := by unfold u64; omega
  refine callsR Try.func34 rfl rfl (by kernel_rfl) rfl ?_
  refine rk_seq ?_
  refine rk_region ?_
  refine wl_p (fun _ => o_assign rfl) ?_
  refine wl_nil ?_
  refine rk_seq ?_
  refine rk_region ?_
  refine wl_p (fun _ => o_move rfl) ?_
  refine wl_p (fun _ => o_len (t := 26) Try.underlying26 rfl) ?_
  refine wl_p (fun _ => o_convu64 (src := 3) (dst := 25) Try.underlying3 Try.underlying25 rfl (by omega) (by omega)) ?_
  refine wl_p (fun _ => o_assign rfl) ?_
  refine wl_nil ?_
  refine rk_seq ?_
  refine rk_region ?_
  refine wl_p (fun _ => o_move rfl) ?_
  refine wl_p (fun _ => o_move rfl) ?_
  refine wl_call rfl (C_size p.length w hn) ?_
  rintro _ w1 ⟨rfl, rfl⟩
  refine wl_p (fun _ => o_move rfl) ?_
  refine wl_p (fun _ => o_len (t := 26) Try.underlying26 rfl) ?_
  refine wl_p (fun _ => o_add rfl rfl (by omega) (by omega)) ?_
  refine wl_call rfl (C_grown c rfl _ w hr (by omega) (by omega)) ?_
  rintro _ w2 ⟨A2, c2, rfl, hown2, hb2⟩
  refine wl_p (fun _ => o_move rfl) ?_
  refine wl_call rfl (C_number c2 p.length w2 hb2.size hown2 hn (by omega)) ?_
  rintro _ w3 ⟨A3, c3, rfl, hown3, hb3⟩
  have hb := hb2.trans hb3
  refine wl_p (fun _ => o_move rfl) ?_
  refine wl_app Try.u8 rfl rfl hown3 rfl rfl (hp.below hb) (by simp [enc_length]; omega) hb.size ?_
  intro A4 c4 w4 hown4 hg4 hk4 hb4
  refine wl_p (fun _ => o_assign rfl) ?_
  refine wl_nil ?_
  refine ret1 rfl rfl ?_
  exact ⟨A4, c4, rfl, hown4, hb.trans hb4⟩

theorem C_Word {A : Option Addr} {l : List UInt8} (c : Nat) (n : Nat) (size : Int) (w : World) (hr : Rd w A l) (hn : n < u64) (hl : l.length ≤ 140737488355000) :
    CallsR Try.prog 22 [.slice A l.length c, .int .u64 n, .int .i64 size] w fun v w' => ∃ A' c', v = .slice A' (l ++ leB (clampN size) n).length c' ∧ Own w' w.heap.size A' c' (l ++ leB (clampN size) n) ∧ Below w.heap.size w w' := by
  obtain ⟨hk1, hk2, hk3⟩ := clampN_bd size
  refine callsR Try.func22 rfl rfl (by kernel_rfl) rfl ?_
  refine rk_seq ?_
  refine rk_region ?_
  refine wl_p (fun _ => o_assign rfl) ?_
  refine wl_nil ?_
  refine rk_seq ?_
  refine rk_region ?_
  refine wl_p (fun _ => o_move rfl) ?_
  refine wl_call rfl (C_clamp size w) ?_
  rintro _ w1 ⟨rfl, rfl⟩
  rw [hk3]
  refine wl_p (fun _ => o_assign rfl) ?_
  refine wl_nil ?_
  refine rk_seq ?_
  refine rk_region ?_
  refine wl_p (fun _ => o_move rfl) ?_
  refine wl_p (fun _ => o_move rfl) ?_
  refine wl_call rfl (C_grown c rfl _ w hr (by omega) (by omega)) ?_
  rintro _ w2 ⟨A2, c2, rfl, hown2, hb2⟩
  refine wl_p (fun _ => o_assign rfl) ?_
  refine wl_nil ?_
  refine rk_seq ?_
  refine rk_seq ?_
  refine rk_region ?_
  refine wl_p (fun _ => o_move rfl) ?_
  refine wl_p (fun _ => o_move rfl) ?_
  refine wl_nil ?_
  refine rk_block ?_
  refine rk_loop (fun m fr w' => ∃ j len A' c', fr = [(0, .slice A' len c'), (1, .int .u64 n), (13, .int .i64 (clampN size)), (14, .int .i64 (j : Nat))] ∧ len = (l ++ leB j n).length ∧ m + j = clampN size ∧ Own w' w.heap.size A' c' (l ++ leB j n) ∧ Below w.heap.size w w')
    (n := clampN size) (by repeat' constructor) ⟨0, _, A2, c2, rfl, by simp [leB], by omega, by simpa [leB] using hown2, hb2⟩ ?_
  rintro m fr w3 ⟨j, len, A', c', rfl, hln, hm, hown', hb'⟩
  have hlen : (l ++ leB j n).length = l.length + j := by simp [leB_length]
  refine rk_seq ?_
  refine rk_region ?_
  refine wl_p (fun _ => o_lt rfl rfl) ?_
  refine wl_nil ?_
  refine rk_seq ?_
  refine rk_if rfl (fun h => ?_) (fun h => ?_)
  · refine rk_skip ?_
    refine rk_seq ?_
    refine rk_block ?_
    refine rk_seq ?_
    refine rk_region ?_
    refine wl_p (fun _ => o_move rfl) ?_
    refine wl_p (fun _ => o_assign rfl) ?_
    refine wl_nil ?_
    refine rk_region ?_
    refine wl_p (fun _ => o_move rfl) ?_
    refine wl_p (fun _ => o_move rfl) ?_
    refine wl_p (fun _ => o_move rfl) ?_
    refine wl_p (fun _ => o_mul rfl rfl (by omega) (by omega)) ?_
    refine wl_p (fun _ => o_shr rfl rfl (by omega)) ?_
    refine wl_p (fun _ => o_asi (o_convi Try.underlying25 Try.underlying5 rfl) (byte_shift n j (by omega))) ?_
    refine wl_v (o_lit (is := [0]) (xs := [.tmp 22]) rfl (Try.lit8 _ _)) ?_
    have hs2 := hb'.size
    refine wl_app (m := [UInt8.ofNat (n / 256 ^ j)]) Try.u8 rfl hln (hown'.alloc _) rfl rfl (rd_lit _ _ _ rfl) (by rw [hlen]; simp; omega) (by simp; omega) ?_
    intro A5 c5 w5 hown5 hg5 hk5 hb5
    refine wl_p (fun _ => o_assign rfl) ?_
    refine wl_nil ?_
    refine rk_blk ?_
    refine rk_region ?_
    refine wl_p (fun _ => o_add rfl rfl (by omega) (by omega)) ?_
    refine wl_p (fun _ => o_move rfl) ?_
    refine wl_nil ?_
    exact rk_again (m := m - 1) (by repeat' constructor) ⟨j + 1, _, A5, c5, rfl, by simp [leB], by omega, by simpa [leB] using hown5, (hb'.alloc (by omega) _).trans hb5⟩ (by omega)
  · obtain rfl : j = clampN size := by omega
    refine rk_exit rfl ?_
    refine rk_seq ?_
    refine rk_region ?_
    refine wl_p (fun _ => o_move rfl) ?_
    refine wl_p (fun _ => o_assign rfl) ?_
    refine wl_nil ?_
    refine ret1 rfl rfl ?_
    exact ⟨A', c', by rw [hln], hown', hb'⟩
end Go.Proofs.Ytpjedpmbninfcaa
