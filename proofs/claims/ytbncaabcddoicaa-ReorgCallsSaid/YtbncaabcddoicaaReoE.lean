/-
  Walks of chapter 18's program: Check, fits, Apply, Back, Then, Depth, Spares, Same.
-/
import Derived.Test.YtbncaabcddoicaaReoD
namespace Go.Proofs.Ytbncaabcddoicaa
open Go.RowKit

def heads (a b : List Dg) : Bool := match a, b with
  | x :: _, y :: _ => decide (x = y)
  | _, _ => false
def pBad (p : Pl) : Bool := decide (p.keep < 0) || !uniq p.undo || !uniq p.doo || heads p.undo p.doo
def pCheck (p : Pl) : Nat := if pBad p then 2 else 0
def lim (p : Pl) : Prop := p.undo.length ≤ 1000000 ∧ p.doo.length ≤ 1000000

theorem C_Check {p : Pl} {v : Value} (w : World) (hp : PlV w p v) (hl : lim p) :
    CallsR Try.prog 18 [v] w fun v w' => v = .int .i64 (pCheck p) ∧ Below w.heap.size w w' := by
  obtain ⟨A, c, B, d, rfl, hA, hB, hc, hd⟩ := hp
  obtain ⟨hl1, hl2⟩ := hl
  obtain ⟨kp, L, M⟩ := p
  simp only at hA hB hc hd hl1 hl2 ⊢
  refine callsR Try.func18 rfl rfl (by kernel_rfl) rfl ?_
  refine rk_seq ?_
  refine rk_region ?_
  refine wl_box [.int .i64 kp, .slice A L.length c, .slice B M.length d] rfl rfl ?_
  intro w1 hB1 hb1 hz1
  refine wl_p (fun _ => o_assign rfl) ?_
  refine wl_nil ?_
  refine rk_seq ?_
  refine rk_region ?_
  refine wl_p (fun _ => o_faddr (s := 25) (i := 1) (off := 1) Try.underlying25 rfl Try.sizeOf23 rfl rfl rfl) ?_
  refine wl_r (o_loadb (t := 23) Try.isAgg23 rfl hB1 (by rfl)) ?_
  refine wl_call rfl (C_setOf c rfl w1 (hA.below hb1) (by omega)) ?_
  rintro _ w2 ⟨s2, n2, rfl, -, -, hb2⟩
  have hw2 := hb1.trans (hb2.mono hb1.size)
  have hB2 := hB1.under hb2
  refine wl_p (fun _ => o_move rfl) ?_
  refine wl_p (fun _ => o_ext20 rfl) ?_
  refine wl_p (fun _ => o_ext21 rfl) ?_
  refine wl_p (fun _ => o_assign rfl) ?_
  refine wl_p (fun _ => o_assign rfl) ?_
  refine wl_nil ?_
  refine rk_seq ?_
  refine rk_region ?_
  refine wl_p (fun _ => o_faddr (s := 25) (i := 2) (off := 2) Try.underlying25 rfl Try.sizeOf23 rfl rfl rfl) ?_
  refine wl_r (o_loadb (t := 23) Try.isAgg23 rfl hB2 (by rfl)) ?_
  refine wl_call rfl (C_setOf d rfl w2 (hB.below hw2) (by omega)) ?_
  rintro _ w3 ⟨s3, n3, rfl, -, -, hb3⟩
  have hw3 := (hw2.trans (hb3.mono hw2.size)).drew
  have hB3 := (hB2.under hb3).drew
  have hA3 := hA.below hw3
  have hBB3 := hB.below hw3
  refine wl_p (fun _ => o_move rfl) ?_
  refine wl_p (fun _ => o_ext20 rfl) ?_
  refine wl_p (fun _ => o_ext21 rfl) ?_
  refine wl_p (fun _ => o_assign rfl) ?_
  refine wl_p (fun _ => o_assign rfl) ?_
  refine wl_nil ?_
  refine rk_seq ?_
  refine rk_seq ?_
  refine rk_draw (id := 3) (none) [0, 1, 2, 4, 8, 24, 40, 72, 128, 384, 640, 1152, 2048, 6144, 10240, 18432, 34816, 65536, 196608, 327680, 589824, 1116160, 2164736, 4194304, 12582912, 20971520, 37748736, 4194304, 138412032, 272629760, 541065216, 1145044992, 2151680000, 4294969344] [0, 1, 3, 7, 15, 31, 63, 127, 255, 511, 1023, 2047, 4095, 8191, 16383, 32767, 65535, 131071, 262143, 524287, 1048575, 2097151, 4194303, 8388607, 16777215, 33554431, 67108863, 8388607, 142606335, 411041791, 947912703, 2147483647, 4294967295, 8589934591] 0 0 [(.p, 0), (.r, 1), (.p, 2), (.p, 3), (.p, 4), (.p, 5), (.p, 6), (.p, 7), (.p, 8), (.p, 9), (.p, 10), (.p, 11), (.p, 12), (.r, 13), (.p, 14), (.p, 15), (.p, 16), (.p, 17), (.r, 18), (.p, 19), (.p, 20), (.p, 21), (.p, 22), (.p, 23), (.r, 24), (.p, 25), (.r, 26), (.p, 27), (.r, 28), (.p, 29), (.r, 30), (.p, 31), (.p, 32), (.p, 33)] (by kernel_rfl) (by kernel_rfl) (by kernel_rfl) (by kernel_rfl) (by kernel_rfl) ?_
  refine wl_p (fun _ => o_faddr (s := 25) (i := 0) (off := 0) Try.underlying25 rfl Try.sizeOf3 rfl rfl rfl) ?_
  refine wl_r (o_loadb (t := 3) Try.isAgg3 rfl hB3 (by rfl)) ?_
  refine wl_p (fun _ => o_lt rfl rfl) ?_
  refine wl_p (fun _ => o_move rfl) ?_
  refine wl_bool 22 rfl (fun h22 => ?_) (fun h22 => ?_)
  · refine wl_off ?_
    refine wl_off ?_
    refine wl_p (fun _ => o_pick_t rfl rfl) ?_
    refine wl_p (fun _ => o_move rfl) ?_
    refine wl_off ?_
    refine wl_off ?_
    refine wl_p (fun _ => o_pick_t rfl rfl) ?_
    refine wl_p (fun _ => o_move rfl) ?_
    refine wl_off ?_
    refine wl_off ?_
    refine wl_off ?_
    refine wl_off ?_
    refine wl_off ?_
    refine wl_off ?_
    refine wl_off ?_
    refine wl_off ?_
    refine wl_off ?_
    refine wl_off ?_
    refine wl_off ?_
    refine wl_off ?_
    refine wl_off ?_
    refine wl_off ?_
    refine wl_off ?_
    refine wl_off ?_
    refine wl_off ?_
    refine wl_off ?_
    refine wl_off ?_
    refine wl_off ?_
    refine wl_off ?_
    refine wl_p (fun _ => o_pick_t rfl rfl) ?_
    refine wl_nild ?_
    refine rk_true rfl ?_
    refine rk_seq ?_
    refine rk_region ?_
    refine wl_p (fun _ => o_assign rfl) ?_
    refine wl_nil ?_
    refine ret1 rfl rfl ?_
    exact ⟨by rw [pCheck, if_pos (by simp [pBad, of_decide_eq_true h22])]; rfl, hw3⟩
  have hk : ¬ kp < 0 := of_decide_eq_false h22
  refine wl_p (fun _ => o_move rfl) ?_
  refine wl_p (fun _ => o_not rfl) ?_
  refine wl_p (fun _ => o_pick_f rfl rfl) ?_
  refine wl_p (fun _ => o_move rfl) ?_
  refine wl_bool 26 rfl (fun h26 => ?_) (fun h26 => ?_)
  · refine wl_off ?_
    refine wl_off ?_
    refine wl_p (fun _ => o_pick_t rfl rfl) ?_
    refine wl_p (fun _ => o_move rfl) ?_
    refine wl_off ?_
    refine wl_off ?_
    refine wl_off ?_
    refine wl_off ?_
    refine wl_off ?_
    refine wl_off ?_
    refine wl_off ?_
    refine wl_off ?_
    refine wl_off ?_
    refine wl_off ?_
    refine wl_off ?_
    refine wl_off ?_
    refine wl_off ?_
    refine wl_off ?_
    refine wl_off ?_
    refine wl_off ?_
    refine wl_off ?_
    refine wl_off ?_
    refine wl_off ?_
    refine wl_off ?_
    refine wl_off ?_
    refine wl_p (fun _ => o_pick_t rfl rfl) ?_
    refine wl_nild ?_
    refine rk_true rfl ?_
    refine rk_seq ?_
    refine rk_region ?_
    refine wl_p (fun _ => o_assign rfl) ?_
    refine wl_nil ?_
    refine ret1 rfl rfl ?_
    exact ⟨by rw [pCheck, if_pos (by simp [pBad, show uniq L = false by simpa using h26])]; rfl, hw3⟩
  have hu : uniq L = true := by simpa using h26
  refine wl_p (fun _ => o_move rfl) ?_
  refine wl_p (fun _ => o_not rfl) ?_
  refine wl_p (fun _ => o_pick_f rfl rfl) ?_
  refine wl_p (fun _ => o_move rfl) ?_
  refine wl_bool 30 rfl (fun h30 => ?_) (fun h30 => ?_)
  · refine wl_off ?_
    refine wl_off ?_
    refine wl_off ?_
    refine wl_off ?_
    refine wl_off ?_
    refine wl_off ?_
    refine wl_off ?_
    refine wl_off ?_
    refine wl_off ?_
    refine wl_off ?_
    refine wl_off ?_
    refine wl_off ?_
    refine wl_off ?_
    refine wl_off ?_
    refine wl_off ?_
    refine wl_off ?_
    refine wl_off ?_
    refine wl_off ?_
    refine wl_off ?_
    refine wl_off ?_
    refine wl_off ?_
    refine wl_p (fun _ => o_pick_t rfl rfl) ?_
    refine wl_nild ?_
    refine rk_true rfl ?_
    refine rk_seq ?_
    refine rk_region ?_
    refine wl_p (fun _ => o_assign rfl) ?_
    refine wl_nil ?_
    refine ret1 rfl rfl ?_
    exact ⟨by rw [pCheck, if_pos (by simp [pBad, show uniq M = false by simpa using h30])]; rfl, hw3⟩
  have hv : uniq M = true := by simpa using h30
  have hch : pCheck ⟨kp, L, M⟩ = if heads L M then 2 else 0 := by simp [pCheck, pBad, hu, hv, hk]
  rw [hch]
  refine wl_p (fun _ => o_faddr (s := 25) (i := 1) (off := 1) Try.underlying25 rfl Try.sizeOf23 rfl rfl rfl) ?_
  refine wl_r (o_loadb (t := 23) Try.isAgg23 rfl hB3 (by rfl)) ?_
  refine wl_p (fun _ => o_len (t := 23) Try.underlying23 rfl) ?_
  refine wl_p (fun _ => o_gt rfl rfl) ?_
  refine wl_p (fun _ => o_move rfl) ?_
  refine wl_bool 35 rfl (fun h35 => ?_) (fun h35 => ?_)
  · refine wl_p (fun _ => o_faddr (s := 25) (i := 2) (off := 2) Try.underlying25 rfl Try.sizeOf23 rfl rfl rfl) ?_
    refine wl_r (o_loadb (t := 23) Try.isAgg23 rfl hB3 (by rfl)) ?_
    refine wl_p (fun _ => o_len (t := 23) Try.underlying23 rfl) ?_
    refine wl_p (fun _ => o_gt rfl rfl) ?_
    refine wl_p (fun _ => o_pick_t rfl rfl) ?_
    refine wl_p (fun _ => o_move rfl) ?_
    refine wl_bool 41 rfl (fun h41 => ?_) (fun h41 => ?_)
    · have hn1 : 0 < L.length := by have := of_decide_eq_true h35; omega
      have hn2 : 0 < M.length := by have := of_decide_eq_true h41; omega
      obtain ⟨x, L', rfl⟩ : ∃ x L', L = x :: L' := by cases L with | nil => simp at hn1 | cons x L' => exact ⟨_, _, rfl⟩
      obtain ⟨y, M', rfl⟩ : ∃ y M', M = y :: M' := by cases M with | nil => simp at hn2 | cons x L' => exact ⟨_, _, rfl⟩
      obtain ⟨b1, o1, rfl, hc1⟩ := hA3.at_ (by simp)
      obtain ⟨b2, o2, rfl, hc2⟩ := hBB3.at_ (by simp)
      refine wl_p (fun _ => o_faddr (s := 25) (i := 1) (off := 1) Try.underlying25 rfl Try.sizeOf23 rfl rfl rfl) ?_
      refine wl_r (o_loadb (t := 23) Try.isAgg23 rfl hB3 (by rfl)) ?_
      refine wl_p (fun _ => o_iaddr (j := 0) Try.underlying23 Try.sizeOf50 rfl rfl rfl hn1) ?_
      refine wl_r (o_loadD rfl (hc1 0 hn1)) ?_
      refine wl_p (fun _ => o_faddr (s := 25) (i := 2) (off := 2) Try.underlying25 rfl Try.sizeOf23 rfl rfl rfl) ?_
      refine wl_r (o_loadb (t := 23) Try.isAgg23 rfl hB3 (by rfl)) ?_
      refine wl_p (fun _ => o_iaddr (j := 0) Try.underlying23 Try.sizeOf50 rfl rfl rfl hn2) ?_
      refine wl_r (o_loadD rfl (hc2 0 hn2)) ?_
      refine wl_p (fun _ => o_deq rfl rfl) ?_
      refine wl_p (fun _ => o_pick_t rfl rfl) ?_
      refine wl_p (fun _ => o_pick_f rfl rfl) ?_
      refine wl_nild ?_
      refine rk_if rfl (fun h => ?_) (fun h => ?_)
      · refine rk_seq ?_
        refine rk_region ?_
        refine wl_p (fun _ => o_assign rfl) ?_
        refine wl_nil ?_
        refine ret1 rfl rfl ?_
        exact ⟨by rw [if_pos (by simpa [heads] using h)]; rfl, hw3⟩
      · refine rk_skip ?_
        refine rk_seq ?_
        refine rk_region ?_
        refine wl_p (fun _ => o_assign rfl) ?_
        refine wl_nil ?_
        refine ret1 rfl rfl ?_
        exact ⟨by rw [if_neg (by simpa [heads] using h)]; rfl, hw3⟩
    · have hn2 : M = [] := List.eq_nil_of_length_eq_zero (by have := of_decide_eq_false h41; omega)
      subst hn2
      refine wl_off ?_
      refine wl_off ?_
      refine wl_off ?_
      refine wl_off ?_
      refine wl_off ?_
      refine wl_off ?_
      refine wl_off ?_
      refine wl_off ?_
      refine wl_off ?_
      refine wl_p (fun _ => o_pick_f rfl rfl) ?_
      refine wl_p (fun _ => o_pick_f rfl rfl) ?_
      refine wl_nild ?_
      refine rk_false rfl ?_
      refine rk_skip ?_
      refine rk_seq ?_
      refine rk_region ?_
      refine wl_p (fun _ => o_assign rfl) ?_
      refine wl_nil ?_
      refine ret1 rfl rfl ?_
      exact ⟨by rw [if_neg (by cases L <;> simp [heads])]; rfl, hw3⟩
  · have hn1 : L = [] := List.eq_nil_of_length_eq_zero (by have := of_decide_eq_false h35; omega)
    subst hn1
    refine wl_off ?_
    refine wl_off ?_
    refine wl_off ?_
    refine wl_off ?_
    refine wl_p (fun _ => o_pick_f rfl rfl) ?_
    refine wl_p (fun _ => o_move rfl) ?_
    refine wl_off ?_
    refine wl_off ?_
    refine wl_off ?_
    refine wl_off ?_
    refine wl_off ?_
    refine wl_off ?_
    refine wl_off ?_
    refine wl_off ?_
    refine wl_off ?_
    refine wl_p (fun _ => o_pick_f rfl rfl) ?_
    refine wl_p (fun _ => o_pick_f rfl rfl) ?_
    refine wl_nild ?_
    refine rk_false rfl ?_
    refine rk_skip ?_
    refine rk_seq ?_
    refine rk_region ?_
    refine wl_p (fun _ => o_assign rfl) ?_
    refine wl_nil ?_
    refine ret1 rfl rfl ?_
    exact ⟨by rw [if_neg (by simp [heads])]; rfl, hw3⟩

def pFits (p : Pl) (old : List Dg) : Bool := decide (p.keep ≤ old.length) && decide (old.drop p.keep.toNat = p.undo) && !(p.doo.any fun q => decide (q ∈ old.take p.keep.toNat))
theorem C_fits {p : Pl} {v : Value} {C : Option Addr} {old : List Dg} {k : Nat} (e : Nat) (hk : k = old.length) (w : World) (hp : PlV w p v) (hl : lim p) (h0 : 0 ≤ p.keep) (hC : RD w C old) (hle : old.length ≤ e) (hlo : old.length ≤ 4000000) :
    CallsR Try.prog 36 [v, .slice C k e] w fun v w' => v = .bool (pFits p old) ∧ Below w.heap.size w w' := by
  subst hk
  obtain ⟨A, c, B, d, rfl, hA, hB, hc, hd⟩ := hp
  obtain ⟨hl1, hl2⟩ := hl
  obtain ⟨kp, L, M⟩ := p
  simp only at hA hB hc hd hl1 hl2 h0 ⊢
  obtain ⟨kn, rfl⟩ := Int.eq_ofNat_of_zero_le h0
  refine callsR Try.func36 rfl rfl (by kernel_rfl) rfl ?_
  refine rk_seq ?_
  refine rk_region ?_
  refine wl_box [.int .i64 kn, .slice A L.length c, .slice B M.length d] rfl rfl ?_
  intro w1 hB1 hb1 hz1
  replace hB1 := hB1.drew
  replace hb1 := hb1.drew
  refine wl_p (fun _ => o_assign rfl) ?_
  refine wl_nil ?_
  refine rk_seq ?_
  refine rk_seq ?_
  refine rk_draw (id := 1) (none) [0, 1, 0, 4, 10, 16, 32, 32, 160, 352, 32, 1056, 2592, 4128, 8224] [0, 1, 0, 4, 15, 31, 63, 63, 191, 511, 63, 1087, 4095, 8191, 16383] 4096 0 [(.p, 0), (.r, 1), (.p, 2), (.p, 3), (.p, 4), (.p, 5), (.p, 6), (.p, 7), (.r, 8), (.p, 9), (.p, 10), (.r, 11), (.l, 12), (.p, 13), (.p, 14)] (by kernel_rfl) (by kernel_rfl) (by kernel_rfl) (by kernel_rfl) (by kernel_rfl) ?_
  refine wl_p (fun _ => o_faddr (s := 25) (i := 0) (off := 0) Try.underlying25 rfl Try.sizeOf3 rfl rfl rfl) ?_
  refine wl_r (o_loadb (t := 3) Try.isAgg3 rfl hB1 (by rfl)) ?_
  refine wl_p (fun _ => o_move rfl) ?_
  refine wl_p (fun _ => o_len (t := 23) Try.underlying23 rfl) ?_
  refine wl_p (fun _ => o_gt rfl rfl) ?_
  refine wl_p (fun _ => o_move rfl) ?_
  refine wl_bool 12 rfl (fun h12 => ?_) (fun h12 => ?_)
  · refine wl_off ?_
    refine wl_off ?_
    refine wl_off ?_
    refine wl_off ?_
    refine wl_off ?_
    refine wl_off ?_
    refine wl_off ?_
    refine wl_off ?_
    refine wl_p (fun _ => o_pick_t rfl rfl) ?_
    refine wl_nild ?_
    refine rk_true rfl ?_
    refine rk_seq ?_
    refine rk_region ?_
    refine wl_p (fun _ => o_assign rfl) ?_
    refine wl_nil ?_
    refine ret1 rfl rfl ?_
    exact ⟨by unfold pFits; simp only; rw [decide_eq_false (by have := of_decide_eq_true h12; omega)]; rfl, hb1⟩
  have hkn : kn ≤ old.length := by have := of_decide_eq_false h12; omega
  refine wl_p (fun _ => o_move rfl) ?_
  refine wl_p (fun _ => o_faddr (s := 25) (i := 0) (off := 0) Try.underlying25 rfl Try.sizeOf3 rfl rfl rfl) ?_
  refine wl_r (o_loadb (t := 3) Try.isAgg3 rfl hB1 (by rfl)) ?_
  refine wl_p (fun _ => o_slice_lo (lo := kn) Try.underlying23 Try.sizeOf50 rfl rfl rfl hkn) ?_
  refine wl_p (fun _ => o_faddr (s := 25) (i := 1) (off := 1) Try.underlying25 rfl Try.sizeOf23 rfl rfl rfl) ?_
  refine wl_r (o_loadb (t := 23) Try.isAgg23 rfl hB1 (by rfl)) ?_
  refine wl_call rfl (C_linSame (a := old.drop kn) (b := L) _ c (by simp) rfl _ ((hC.below hb1).cut hkn hle) (hA.below hb1) (by simp; omega) (by omega)) ?_
  rintro _ w2 ⟨rfl, hb2⟩
  have hw2 := hb1.trans (hb2.mono hb1.size)
  have hB2 := hB1.under hb2
  refine wl_p (fun _ => o_not rfl) ?_
  refine wl_p (fun _ => o_pick_f rfl rfl) ?_
  refine wl_nild ?_
  refine rk_cond rfl (fun h => ?_) (fun h => ?_)
  · refine rk_seq ?_
    refine rk_region ?_
    refine wl_p (fun _ => o_assign rfl) ?_
    refine wl_nil ?_
    refine ret1 rfl rfl ?_
    exact ⟨by unfold pFits; simp only [Int.toNat_natCast]; rw [show decide (old.drop kn = L) = false by simpa using h]; simp, hw2⟩
  have hdr : decide (old.drop kn = L) = true := by simpa using h
  have e1 : pFits ⟨kn, L, M⟩ old = !(M.any fun q => decide (q ∈ old.take kn)) := by
    unfold pFits; simp only [Int.toNat_natCast]; rw [hdr, decide_eq_true (by omega)]; simp
  rw [e1]
  refine rk_skip ?_
  refine rk_seq ?_
  refine rk_region ?_
  refine wl_p (fun _ => o_move rfl) ?_
  refine wl_p (fun _ => o_faddr (s := 25) (i := 0) (off := 0) Try.underlying25 rfl Try.sizeOf3 rfl rfl rfl) ?_
  refine wl_r (o_loadb (t := 3) Try.isAgg3 rfl hB2 (by rfl)) ?_
  refine wl_p (fun _ => o_slice_hi (hi := kn) Try.underlying23 Try.sizeOf50 rfl rfl rfl (by omega)) ?_
  refine wl_call rfl (C_setOf (L := old.take kn) e (by simp; omega) w2 ((hC.below hw2).take hkn) (by simp; omega)) ?_
  rintro _ w3 ⟨s, n3, rfl, hs, hS3, hb3⟩
  have hw3 := hw2.trans (hb3.mono hw2.size)
  have hB3 := hB2.under hb3
  refine wl_p (fun _ => o_move rfl) ?_
  refine wl_p (fun _ => o_ext20 rfl) ?_
  refine wl_p (fun _ => o_ext21 rfl) ?_
  refine wl_alloc [.map none] Try.zeroValue54 rfl ?_
  intro w4 hB4 hb4 hz4
  refine wl_store1 Try.sizeOf54 rfl rfl rfl hB4 (by simp) ?_
  intro w5 hB5 hg5 hz5
  have hw35 : Below w3.heap.size w3 w5 := hb4.trans (below_of_grownBy hg5 hb4.size (Nat.le_refl _))
  have hw5 := hw3.trans (hw35.mono hw3.size)
  have hB35 := hB3.under hw35
  have hS5 := hS3.below hw35
  refine wl_p (fun _ => o_assign rfl) ?_
  refine wl_nil ?_
  refine rk_seq ?_
  refine rk_region ?_
  refine wl_p (fun _ => o_faddr (s := 25) (i := 2) (off := 2) Try.underlying25 rfl Try.sizeOf23 rfl rfl rfl) ?_
  refine wl_r (o_loadb (t := 23) Try.isAgg23 rfl hB35 (by rfl)) ?_
  refine wl_p (fun _ => o_makeFunc (xs := [.tmp 5]) rfl) ?_
  refine wl_call rfl (C_ContainsFunc (L := M) d rfl 47 [.pointer (some ⟨w3.heap.size, 0, none⟩)] (fun q => decide (q ∈ old.take kn)) w5 (hB.below hw5) (by omega) (fun q w' hw' => C_fits1 q w' (hB5.under hw') (hS5.below hw'))) ?_
  rintro _ w6 ⟨rfl, hb6⟩
  refine wl_p (fun _ => o_not rfl) ?_
  refine wl_p (fun _ => o_assign rfl) ?_
  refine wl_nil ?_
  refine ret1 rfl rfl ?_
  exact ⟨rfl, hw5.trans (hb6.mono hw5.size)⟩

def pApply (p : Pl) (old : List Dg) : List Dg × Nat := if pBad p then ([], 2) else if pFits p old then (old.take p.keep.toNat ++ p.doo, 0) else ([], 4)
theorem pBad_keep {p : Pl} (h : pBad p = false) : 0 ≤ p.keep := by
  unfold pBad at h
  simp only [Bool.or_eq_false_iff, decide_eq_false_iff_not] at h
  omega
theorem PlV.cells {w : World} {p : Pl} {v : Value} (h : PlV w p v) : ∃ vs : List Value, v = .agg vs.toArray ∧ vs.length = 3 ∧ ∀ u ∈ vs, u.oneCell' = true := by
  obtain ⟨A, c, A', c', rfl, -⟩ := h
  exact ⟨[_, _, _], rfl, rfl, fun u hu => by simp at hu; rcases hu with rfl | rfl | rfl <;> rfl⟩
theorem Try.rowDD : RowT Try.prog 70 23 (.slice none 0 0) 1 24 := ⟨Try.underlying70, by kernel_rfl, rfl, by omega⟩
theorem C_Apply {p : Pl} {v : Value} {C : Option Addr} {old : List Dg} {k : Nat} (e : Nat) (hk : k = old.length) (w : World) (hp : PlV w p v) (hl : lim p) (hC : RD w C old) (hle : old.length ≤ e) (hlo : old.length ≤ 2000000) :
    CallsR Try.prog 15 [v, .slice C k e] w fun v w' => ∃ A c, v = .tuple #[.slice A (pApply p old).1.length c, .int .i64 (pApply p old).2] ∧ OwnD w' w.heap.size A c (pApply p old).1 ∧ Below w.heap.size w w' := by
  subst hk
  obtain ⟨A, c, B, d, rfl, hA, hB, hc, hd⟩ := hp
  have hp : ∀ w', Below w.heap.size w w' → PlV w' p (.agg #[.int .i64 p.keep, .slice A p.undo.length c, .slice B p.doo.length d]) := fun w' h => ⟨A, c, B, d, rfl, hA.below h, hB.below h, hc, hd⟩
  refine callsR Try.func15 rfl rfl (by kernel_rfl) rfl ?_
  refine rk_seq ?_
  refine rk_region ?_
  refine wl_box [.int .i64 p.keep, .slice A p.undo.length c, .slice B p.doo.length d] rfl rfl ?_
  intro w1 hB1 hb1 hz1
  refine wl_p (fun _ => o_assign rfl) ?_
  refine wl_p (fun _ => o_assign rfl) ?_
  refine wl_nil ?_
  refine rk_seq ?_
  refine rk_seq ?_
  refine rk_region ?_
  refine wl_r (o_load_all (t := 25) Try.isAgg25 Try.sizeOf25 rfl hB1 (by rfl)) ?_
  refine wl_call rfl (C_Check w1 (hp w1 hb1) hl) ?_
  rintro _ w2 ⟨rfl, hb2⟩
  have hw2 := hb1.trans (hb2.mono hb1.size)
  have hB2 := hB1.under hb2
  refine wl_p (fun _ => o_assign rfl) ?_
  refine wl_nil ?_
  refine rk_seq ?_
  refine rk_region ?_
  refine wl_p (fun _ => o_move rfl) ?_
  refine wl_p (fun _ => o_ne rfl rfl) ?_
  refine wl_nil ?_
  unfold pApply
  refine rk_if rfl (fun h => ?_) (fun h => ?_)
  · have hbad : pBad p = true := by
      cases hb : pBad p with
      | true => rfl
      | false => exact absurd h (by simp [pCheck, hb])
    rw [if_pos hbad]
    refine rk_seq ?_
    refine rk_region ?_
    refine wl_p (fun _ => o_move rfl) ?_
    refine wl_p (fun _ => o_assign rfl) ?_
    refine wl_p (fun _ => o_assign rfl) ?_
    refine wl_nil ?_
    refine ret2 rfl rfl rfl ?_
    exact ⟨none, 0, by simp [pCheck, hbad], OwnD.nil _ _, hw2⟩
  have hbad : pBad p = false := by
    cases hb : pBad p with
    | false => rfl
    | true => exact absurd h (by simp [pCheck, hb])
  have h0 := pBad_keep hbad
  rw [if_neg (by simp [hbad])]
  refine rk_skip ?_
  refine rk_seq ?_
  refine rk_seq ?_
  refine rk_region ?_
  refine wl_r (o_load_all (t := 25) Try.isAgg25 Try.sizeOf25 rfl hB2 (by rfl)) ?_
  refine wl_p (fun _ => o_move rfl) ?_
  refine wl_call rfl (C_fits e rfl w2 (hp w2 hw2) hl h0 (hC.below hw2) hle (by omega)) ?_
  rintro _ w3 ⟨rfl, hb3⟩
  have hw3 := hw2.trans (hb3.mono hw2.size)
  have hB3 := hB2.under hb3
  refine wl_p (fun _ => o_not rfl) ?_
  refine wl_nil ?_
  refine rk_cond rfl (fun h => ?_) (fun h => ?_)
  · rw [if_neg (by simpa using h)]
    refine rk_seq ?_
    refine rk_region ?_
    refine wl_p (fun _ => o_assign rfl) ?_
    refine wl_p (fun _ => o_assign rfl) ?_
    refine wl_nil ?_
    refine ret2 rfl rfl rfl ?_
    exact ⟨none, 0, rfl, OwnD.nil _ _, hw3⟩
  have hf : pFits p old = true := by simpa using h
  replace hw3 := hw3.drew
  replace hB3 := hB3.drew
  rw [if_pos hf]
  obtain ⟨kn, hkn⟩ := Int.eq_ofNat_of_zero_le h0
  have hle2 : kn ≤ old.length := by
    unfold pFits at hf
    simp only [Bool.and_eq_true, decide_eq_true_eq] at hf
    omega
  refine rk_skip ?_
  refine rk_seq ?_
  refine rk_draw (id := 6) (none) [0, 0, 2, 5, 0, 16, 40, 64, 255, 511] [0, 0, 2, 7, 0, 16, 63, 127, 255, 511] 192 0 [(.p, 0), (.p, 1), (.r, 2), (.p, 3), (.p, 4), (.r, 5), (.l, 6), (.l, 7), (.p, 8), (.p, 9)] (by kernel_rfl) (by kernel_rfl) (by kernel_rfl) (by kernel_rfl) (by kernel_rfl) ?_
  refine wl_p (fun _ => o_move rfl) ?_
  refine wl_p (fun _ => o_faddr (s := 25) (i := 0) (off := 0) Try.underlying25 rfl Try.sizeOf3 rfl rfl rfl) ?_
  refine wl_r (o_loadb (t := 3) Try.isAgg3 rfl hB3 (by rfl)) ?_
  refine wl_p (fun _ => o_slice_hi (hi := kn) Try.underlying23 Try.sizeOf50 rfl rfl hkn (by omega)) ?_
  refine wl_p (fun _ => o_faddr (s := 25) (i := 2) (off := 2) Try.underlying25 rfl Try.sizeOf23 rfl rfl rfl) ?_
  refine wl_r (o_loadb (t := 23) Try.isAgg23 rfl hB3 (by rfl)) ?_
  refine wl_litn (xs := [.tmp 19, .tmp 21]) Try.rowDD Try.sizeOf23 Try.zeroValue23 2 rfl rfl (fun v hv => by simp at hv; rcases hv with rfl | rfl <;> rfl) rfl ?_
  intro w4 h4 hb4 hz4
  have hw4 := hw3.trans (hb4.mono hw3.size)
  refine wl_call rfl (C_Concat [(C, e, old.take kn), (B, d, p.doo)] 2 w4 ?_ ?_ ?_ (by simp)) ?_
  · have := Reads.of_own (h4 _ (Nat.le_refl _))
    have e : (old.take kn).length = kn := by simp; omega
    simp only [List.map_cons, List.map_nil, List.length_cons, List.length_nil, e]
    exact this
  · intro x hx
    simp only [List.mem_cons, List.not_mem_nil, or_false] at hx
    rcases hx with rfl | rfl
    · exact (hC.below hw4).take hle2
    · exact hB.below hw4
  · have := hl.2
    simp
    omega
  rintro _ w5 ⟨A5, c5, rfl, hown5, hb5⟩
  have hw5 := hw4.trans (hb5.mono hw4.size)
  have e5 : ([(C, e, old.take kn), (B, d, p.doo)].flatMap fun x => x.2.2) = old.take p.keep.toNat ++ p.doo := by rw [hkn]; simp
  rw [e5] at hown5 ⊢
  refine wl_p (fun _ => o_assign rfl) ?_
  refine wl_p (fun _ => o_assign rfl) ?_
  refine wl_nild ?_
  refine ret2 rfl rfl rfl ?_
  exact ⟨A5, c5, rfl, hown5.base hw4.size, hw5⟩

def pBack (p : Pl) : Pl × Nat := if pBad p then (pl0, 2) else (⟨p.keep, p.doo, p.undo⟩, 0)
theorem C_Back {p : Pl} {v : Value} (w : World) (hp : PlV w p v) (hl : lim p) :
    CallsR Try.prog 21 [v] w fun v w' => ∃ u, v = .tuple #[u, .int .i64 (pBack p).2] ∧ PlO w' w.heap.size (pBack p).1 u ∧ Below w.heap.size w w' := by
  obtain ⟨A, c, B, d, rfl, hA, hB, hc, hd⟩ := hp
  have hp : ∀ w', Below w.heap.size w w' → PlV w' p (.agg #[.int .i64 p.keep, .slice A p.undo.length c, .slice B p.doo.length d]) := fun w' h => ⟨A, c, B, d, rfl, hA.below h, hB.below h, hc, hd⟩
  refine callsR Try.func21 rfl rfl (by kernel_rfl) rfl ?_
  refine rk_seq ?_
  refine rk_region ?_
  refine wl_box [.int .i64 p.keep, .slice A p.undo.length c, .slice B p.doo.length d] rfl rfl ?_
  intro w1 hB1 hb1 hz1
  refine wl_alloc pl0c Try.zeroValue25 rfl ?_
  intro w2 hB2 hb2 hz2
  have hw2 := hb1.trans (hb2.mono hb1.size)
  have hB12 := hB1.under hb2
  refine wl_p (fun _ => o_assign rfl) ?_
  refine wl_nil ?_
  refine rk_seq ?_
  refine rk_seq ?_
  refine rk_region ?_
  refine wl_r (o_load_all (t := 25) Try.isAgg25 Try.sizeOf25 rfl hB12 (by rfl)) ?_
  refine wl_call rfl (C_Check w2 (hp w2 hw2) hl) ?_
  rintro _ w3 ⟨rfl, hb3⟩
  have hw3 := hw2.trans (hb3.mono hw2.size)
  have hB13 := hB12.under hb3
  have hB23 := hB2.under hb3
  refine wl_p (fun _ => o_assign rfl) ?_
  refine wl_nil ?_
  refine rk_seq ?_
  refine rk_region ?_
  refine wl_p (fun _ => o_move rfl) ?_
  refine wl_p (fun _ => o_ne rfl rfl) ?_
  refine wl_nil ?_
  unfold pBack
  refine rk_if rfl (fun h => ?_) (fun h => ?_)
  · have hbad : pBad p = true := by
      cases hb : pBad p with
      | true => rfl
      | false => exact absurd h (by simp [pCheck, hb])
    rw [if_pos hbad]
    refine rk_seq ?_
    refine rk_region ?_
    refine wl_p (fun _ => o_build (is := []) (xs := []) (vs := []) rfl Try.build_Plan0) ?_
    refine wl_p (fun _ => o_move rfl) ?_
    refine wl_store_all Try.sizeOf25 rfl rfl rfl (fun u hu => by simp at hu; rcases hu with rfl | rfl | rfl <;> rfl) hB23 rfl ?_
    intro w4 hB4 hg4 hz4
    refine wl_p (fun _ => o_assign rfl) ?_
    refine wl_nil ?_
    refine ret_cell_tmp rfl rfl rfl Try.isAgg25 Try.sizeOf25 hB4 rfl ?_
    exact ⟨_, by simp [pCheck, hbad], PlO.zero _ _, hw3.trans (below_of_grownBy hg4 hw3.size (by omega))⟩
  have hbad : pBad p = false := by
    cases hb : pBad p with
    | false => rfl
    | true => exact absurd h (by simp [pCheck, hb])
  rw [if_neg (by simp [hbad])]
  refine rk_skip ?_
  refine rk_seq ?_
  refine rk_region ?_
  refine wl_r (o_load_all (t := 25) Try.isAgg25 Try.sizeOf25 rfl hB13 (by rfl)) ?_
  refine wl_call rfl (C_turn w3 (hp w3 hw3)) ?_
  rintro v4 w4 ⟨hP4, hb4⟩
  have hw4 := hw3.trans (hb4.mono hw3.size)
  refine wl_call rfl (C_dplan w4 hP4 (by have := hl.2; simp only; omega) (by have := hl.1; simp only; omega)) ?_
  rintro v5 w5 ⟨hP5, hb5⟩
  have hw5 := hw4.trans (hb5.mono hw4.size)
  obtain ⟨vs, rfl, hvl, hv1⟩ := hP5.cells
  have hB25 := (hB23.under hb4).under hb5
  refine wl_store_all Try.sizeOf25 rfl rfl hvl hv1 hB25 rfl ?_
  intro w6 hB6 hg6 hz6
  refine wl_p (fun _ => o_assign rfl) ?_
  refine wl_nil ?_
  refine ret_cell_tmp rfl rfl rfl Try.isAgg25 Try.sizeOf25 hB6 hvl ?_
  have h41 : w1.heap.size < w4.heap.size := by have := hb3.size; have := hb4.size; omega
  exact ⟨_, rfl, (hP5.kept hg6 h41).base hw4.size, hw5.trans (below_of_grownBy hg6 hw5.size (by omega))⟩

theorem C_Depth {p : Pl} {v : Value} (w : World) (hp : PlV w p v) (hl : lim p) :
    CallsR Try.prog 19 [v] w fun v w' => v = .int .i64 (if pBad p then 0 else p.undo.length : Nat) ∧ Below w.heap.size w w' := by
  obtain ⟨A, c, B, d, rfl, hA, hB, hc, hd⟩ := hp
  have hp : ∀ w', Below w.heap.size w w' → PlV w' p (.agg #[.int .i64 p.keep, .slice A p.undo.length c, .slice B p.doo.length d]) := fun w' h => ⟨A, c, B, d, rfl, hA.below h, hB.below h, hc, hd⟩
  refine callsR Try.func19 rfl rfl (by kernel_rfl) rfl ?_
  refine rk_seq ?_
  refine rk_region ?_
  refine wl_box [.int .i64 p.keep, .slice A p.undo.length c, .slice B p.doo.length d] rfl rfl ?_
  intro w1 hB1 hb1 hz1
  refine wl_p (fun _ => o_assign rfl) ?_
  refine wl_nil ?_
  refine rk_seq ?_
  refine rk_seq ?_
  refine rk_region ?_
  refine wl_r (o_load_all (t := 25) Try.isAgg25 Try.sizeOf25 rfl hB1 (by rfl)) ?_
  refine wl_call rfl (C_Check w1 (hp w1 hb1) hl) ?_
  rintro _ w2 ⟨rfl, hb2⟩
  have hw2 := hb1.trans (hb2.mono hb1.size)
  have hB2 := hB1.under hb2
  refine wl_p (fun _ => o_ne rfl rfl) ?_
  refine wl_nil ?_
  refine rk_if rfl (fun h => ?_) (fun h => ?_)
  · have hbad : pBad p = true := by
      cases hb : pBad p with
      | true => rfl
      | false => exact absurd h (by simp [pCheck, hb])
    refine rk_seq ?_
    refine rk_region ?_
    refine wl_p (fun _ => o_assign rfl) ?_
    refine wl_nil ?_
    refine ret1 rfl rfl ?_
    exact ⟨by simp [hbad], hw2⟩
  · have hbad : pBad p = false := by
      cases hb : pBad p with
      | false => rfl
      | true => exact absurd h (by simp [pCheck, hb])
    refine rk_skip ?_
    refine rk_seq ?_
    refine rk_region ?_
    refine wl_p (fun _ => o_faddr (s := 25) (i := 1) (off := 1) Try.underlying25 rfl Try.sizeOf23 rfl rfl rfl) ?_
    refine wl_r (o_loadb (t := 23) Try.isAgg23 rfl hB2 (by rfl)) ?_
    refine wl_p (fun _ => o_len (t := 23) Try.underlying23 rfl) ?_
    refine wl_p (fun _ => o_assign rfl) ?_
    refine wl_nil ?_
    refine ret1 rfl rfl ?_
    exact ⟨by simp [hbad], hw2⟩

theorem C_Spares {p : Pl} {v : Value} (n : Int) (w : World) (hp : PlV w p v) (hl : lim p) :
    CallsR Try.prog 22 [v, .int .i64 n] w fun v w' => v = .bool (!pBad p && decide (n ≤ p.keep)) ∧ Below w.heap.size w w' := by
  obtain ⟨A, c, B, d, rfl, hA, hB, hc, hd⟩ := hp
  have hp : ∀ w', Below w.heap.size w w' → PlV w' p (.agg #[.int .i64 p.keep, .slice A p.undo.length c, .slice B p.doo.length d]) := fun w' h => ⟨A, c, B, d, rfl, hA.below h, hB.below h, hc, hd⟩
  refine callsR Try.func22 rfl rfl (by kernel_rfl) rfl ?_
  refine rk_seq ?_
  refine rk_region ?_
  refine wl_box [.int .i64 p.keep, .slice A p.undo.length c, .slice B p.doo.length d] rfl rfl ?_
  intro w1 hB1 hb1 hz1
  refine wl_p (fun _ => o_assign rfl) ?_
  refine wl_nil ?_
  refine rk_seq ?_
  refine rk_region ?_
  refine wl_r (o_load_all (t := 25) Try.isAgg25 Try.sizeOf25 rfl hB1 (by rfl)) ?_
  refine wl_call rfl (C_Check w1 (hp w1 hb1) hl) ?_
  rintro _ w2 ⟨rfl, hb2⟩
  have hw2 := hb1.trans (hb2.mono hb1.size)
  have hB2 := hB1.under hb2
  refine wl_p (fun _ => o_eq rfl rfl) ?_
  refine wl_p (fun _ => o_move rfl) ?_
  refine wl_bool 8 rfl (fun h => ?_) (fun h => ?_)
  · have hbad : pBad p = false := by
      cases hb : pBad p with
      | false => rfl
      | true => exact absurd (of_decide_eq_true h) (by simp [pCheck, hb])
    refine wl_p (fun _ => o_faddr (s := 25) (i := 0) (off := 0) Try.underlying25 rfl Try.sizeOf3 rfl rfl rfl) ?_
    refine wl_r (o_loadb (t := 3) Try.isAgg3 rfl hB2 (by rfl)) ?_
    refine wl_p (fun _ => o_move rfl) ?_
    refine wl_p (fun _ => o_ge rfl rfl) ?_
    refine wl_p (fun _ => o_pick_t rfl rfl) ?_
    refine wl_p (fun _ => o_assign rfl) ?_
    refine wl_nil ?_
    refine ret1 rfl rfl ?_
    exact ⟨by simp [hbad], hw2⟩
  · have hbad : pBad p = true := by
      cases hb : pBad p with
      | true => rfl
      | false => exact absurd (of_decide_eq_false h) (by simp [pCheck, hb])
    refine wl_off ?_
    refine wl_off ?_
    refine wl_off ?_
    refine wl_off ?_
    refine wl_p (fun _ => o_pick_f rfl rfl) ?_
    refine wl_p (fun _ => o_assign rfl) ?_
    refine wl_nil ?_
    refine ret1 rfl rfl ?_
    exact ⟨by simp [hbad], hw2⟩
end Go.Proofs.Ytbncaabcddoicaa
