/-
  Walks of chapter 18: the document's answer, the rest of it.
-/
import Derived.Test.YtbncaabcddoicaaReoQ
import Derived.Test.YtbncaabcddoicaaReoH
namespace Go.Proofs.Ytbncaabcddoicaa
open Go.RowKit

theorem same_iff (a b : List Dg) : (a.length = b.length ∧ common a b = a.length) ↔ a = b := by
  constructor
  · rintro ⟨h1, h2⟩
    have h3 := common_take a b
    rw [h2, List.take_length, h1, List.take_length] at h3
    exact h3
  · rintro rfl
    refine ⟨rfl, ?_⟩
    have := common_end a a rfl
    simpa using this
theorem C_refSame {A B : Option Addr} {a b : List Dg} {k m c d : Nat} (w : World) (hra : RD w A a) (hrb : RD w B b) (hk : k = a.length) (hm : m = b.length) (hla : a.length ≤ 4000000) (hlb : b.length ≤ 4000000) (hc : a.length ≤ c) (hd : b.length ≤ d) :
    CallsR Try.prog 42 [.slice A k c, .slice B m d] w fun v w' => v = .bool (decide (a = b)) ∧ Below w.heap.size w w' := by
  subst hk; subst hm
  refine callsR Try.func42 rfl rfl (by kernel_rfl) rfl ?_
  have hw := Below.refl w.heap.size w
  refine rk_seq ?_
  refine rk_region ?_
  refine wl_p (fun _ => o_assign rfl) ?_
  refine wl_nil ?_
  refine rk_seq ?_
  refine rk_region ?_
  refine wl_p (fun _ => o_move rfl) ?_
  refine wl_p (fun _ => o_len (t := 23) Try.underlying23 rfl) ?_
  refine wl_p (fun _ => o_move rfl) ?_
  refine wl_p (fun _ => o_len (t := 23) Try.underlying23 rfl) ?_
  refine wl_p (fun _ => o_eq rfl rfl) ?_
  refine wl_p (fun _ => o_move rfl) ?_
  refine wl_bool 10 rfl (fun h10 => ?_) (fun h10 => ?_) <;> try simp only [decide_eq_true_eq, decide_eq_false_iff_not, Bool.not_eq_true', Bool.not_eq_false', Bool.and_eq_true, Bool.and_eq_false_iff, Bool.or_eq_true, Bool.or_eq_false_iff] at h10
  · refine wl_p (fun _ => o_move rfl) ?_
    refine wl_p (fun _ => o_move rfl) ?_
    refine wl_call rfl (C_refCommon (c) (d) rfl rfl _ hra hrb (by omega) (by omega)) ?_
    rintro v13 w13 ⟨rfl, b13⟩
    have s13 := b13.size
    replace hw := hw.trans (b13.mono hw.size)
    refine wl_p (fun _ => o_move rfl) ?_
    refine wl_p (fun _ => o_len (t := 23) Try.underlying23 rfl) ?_
    refine wl_p (fun _ => o_eq rfl rfl) ?_
    refine wl_p (fun _ => o_pick_t rfl rfl) ?_
    refine wl_p (fun _ => o_assign rfl) ?_
    refine wl_nil ?_
    refine ret1 rfl rfl ?_
    refine ⟨congrArg Value.bool ?_, hw⟩
    refine Bool.eq_iff_iff.2 ?_
    simp only [decide_eq_true_eq, ← same_iff, if_true]
    omega
  · refine wl_off ?_
    refine wl_off ?_
    refine wl_off ?_
    refine wl_off ?_
    refine wl_off ?_
    refine wl_off ?_
    refine wl_p (fun _ => o_pick_f rfl rfl) ?_
    refine wl_p (fun _ => o_assign rfl) ?_
    refine wl_nil ?_
    refine ret1 rfl rfl ?_
    refine ⟨congrArg Value.bool ?_, hw⟩
    symm
    refine decide_eq_false fun e => ?_
    subst e
    exact h10 rfl

theorem C_refPlace {A : Option Addr} {L : List Dg} {k c : Nat} {q : Dg} (w : World) (hr : RD w A L) (hk : k = L.length) (hL : L.length ≤ 4000000) :
    CallsR Try.prog 43 [.slice A k c, vD q] w fun v w' => ∃ z : Int, v = .int .i64 z ∧ (0 ≤ z ↔ q ∈ L) ∧ Below w.heap.size w w' := by
  subst hk
  refine callsR Try.func43 rfl rfl (by kernel_rfl) rfl ?_
  have hw := Below.refl w.heap.size w
  refine rk_seq ?_
  refine rk_region ?_
  refine wl_boxg _ rfl (by rfl) ?_
  rintro g3 w3 f3 b3 i3 i3_1
  have s3 := b3.size
  replace hw := hw.trans (b3.mono hw.size)
  refine wl_p (fun _ => o_assign rfl) ?_
  refine wl_nil ?_
  refine rk_seq ?_
  refine rk_seq ?_
  refine rk_region ?_
  refine wl_p (fun _ => o_assign rfl) ?_
  refine wl_nil ?_
  refine rk_block ?_
  refine rk_joinf (fun fb fr w2 => fr = [] ++ fb.drop 1 ∧ q ∉ L ∧ Below w3.heap.size w3 w2) ?_ (fun ks hj => ?_)
  rotate_left
  · refine rk_loopf (fun fb m fr w2 => ∃ (i : Nat) (v : Int), fr = [(5, .int .i64 v)] ++ fb ∧ v = i ∧ i ≤ L.length ∧ m = L.length - i ∧ q ∉ L.take i ∧ Below w3.heap.size w3 w2) (n := L.length) (Fr.le_of (by kernel_rfl) (by kernel_rfl) (by repeat' constructor)) ⟨0, _, rfl, rfl, by omega, rfl, by simp, Below.refl _ _⟩ ?_
    rintro m fr w2 ⟨i, v, rfl, rfl, hi, rfl, hni, hw1⟩
    first | refine rk_frame (by simp only [List.cons_append, List.nil_append, List.drop_succ_cons, List.drop_zero]; rfl) ?_ | refine wl_frame (by simp only [List.cons_append, List.nil_append, List.drop_succ_cons, List.drop_zero]; rfl) ?_
    have shw1 := hw1.size
    replace hw := hw.trans (hw1.mono hw.size)
    replace f3 := f3.u hw1
    refine rk_seq ?_
    refine rk_seq ?_
    refine rk_region ?_
    refine wl_p (fun _ => o_move rfl) ?_
    refine wl_p (fun _ => o_move rfl) ?_
    refine wl_p (fun _ => o_len (t := 23) Try.underlying23 rfl) ?_
    refine wl_p (fun _ => o_lt rfl rfl) ?_
    refine wl_nil ?_
    refine rk_if rfl (fun h9 => ?_) (fun h9 => ?_)
    · have hil : i < L.length := by omega
      refine rk_skip ?_
      refine rk_seq ?_
      refine rk_block ?_
      refine rk_seq ?_
      refine rk_draw (id := 4) (none) [0, 0, 3, 4, 0, 24] [0, 0, 3, 7, 0, 31] 0 0 [(.p, 0), (.p, 1), (.p, 2), (.r, 3), (.r, 4), (.p, 5)] (by kernel_rfl) (by kernel_rfl) (by kernel_rfl) (by kernel_rfl) (by kernel_rfl) ?_
      replace hw1 := hw1.drew
      replace hw := hw.drew
      replace f3 := f3.d
      refine wl_p (fun _ => o_move rfl) ?_
      refine wl_p (fun _ => o_move rfl) ?_
      refine wl_p (fun _ => (o_iaddrA (i) Try.underlying23 Try.sizeOf50 rfl rfl rfl (Reads.some_ hr.to_Reads (by decide) (by omega)) (by omega))) ?_
      refine wl_r (o_loadDR rfl (hr.u hw) (by omega)) ?_
      refine wl_r (o_loadDg rfl f3) ?_
      refine wl_p (fun _ => o_deq rfl rfl) ?_
      refine wl_nild ?_
      refine rk_if rfl (fun h17 => ?_) (fun h17 => ?_)
      · refine rk_seq ?_
        refine rk_region ?_
        refine wl_p (fun _ => o_move rfl) ?_
        refine wl_p (fun _ => o_assign rfl) ?_
        refine wl_nil ?_
        refine ret1 rfl rfl ?_
        exact ⟨_, rfl, ⟨fun _ => by rw [← h17]; exact List.getElem_mem hil, fun _ => by omega⟩, hw⟩
      · refine rk_skip ?_
        refine rk_blk ?_
        refine rk_region ?_
        refine wl_p (fun _ => o_move rfl) ?_
        refine wl_p (fun _ => o_add rfl rfl (by omega) (by omega)) ?_
        refine wl_p (fun _ => o_assign rfl) ?_
        refine wl_nil ?_
        exact rk_againf (Fr.le_of (by kernel_rfl) (by kernel_rfl) (by repeat' constructor)) ⟨i + 1, (i : Int) + 1, rfl, by omega, by omega, rfl, by rw [List.take_succ_eq_append_getElem hil]; simp only [List.mem_append, List.mem_singleton, not_or]; exact ⟨hni, fun e => h17 e.symm⟩, hw1⟩ (by omega)
    · have e : L.take i = L := List.take_of_length_le (by omega)
      rw [e] at hni
      refine rk_exit rfl ?_
      exact rk_tof hj (Fr.le_of (by kernel_rfl) (by kernel_rfl) (by repeat' constructor)) ⟨rfl, hni, hw1⟩
  rintro fr w2 ⟨rfl, hni, bj⟩
  first | refine rk_frame (by simp only [List.cons_append, List.nil_append, List.drop_succ_cons, List.drop_zero]; rfl) ?_ | refine wl_frame (by simp only [List.cons_append, List.nil_append, List.drop_succ_cons, List.drop_zero]; rfl) ?_
  have sbj := bj.size
  replace hw := hw.trans (bj.mono hw.size)
  replace f3 := f3.u bj
  refine rk_seq ?_
  refine rk_region ?_
  refine wl_p (fun _ => o_assign rfl) ?_
  refine wl_nil ?_
  refine ret1 rfl rfl ?_
  exact ⟨_, rfl, ⟨fun h => absurd h (by decide), fun h => absurd h hni⟩, hw⟩

theorem heads_get {L M : List Dg} (h1 : 0 < L.length) (h2 : 0 < M.length) : heads L M = decide (L[0] = M[0]) := by
  cases L with
  | nil => simp at h1
  | cons x L => cases M with
    | nil => simp at h2
    | cons y M => rfl
theorem heads_nil {L M : List Dg} (h : L.length = 0 ∨ M.length = 0) : heads L M = false := by
  rcases h with h | h
  · obtain rfl := List.eq_nil_of_length_eq_zero h; rfl
  · obtain rfl := List.eq_nil_of_length_eq_zero h; cases L <;> rfl
theorem C_refCheck {p : Pl} {v : Value} {r : Nat} (w : World) (hp : PlV w p v) (hr : pCheck p = r) (hl : lim p) :
    CallsR Try.prog 28 [v] w fun v w' => v = .int .i64 r ∧ Below w.heap.size w w' := by
  subst hr
  obtain ⟨A, c, B, d, rfl, hA, hB, hc, hd⟩ := hp
  obtain ⟨k, L, M⟩ := p
  obtain ⟨hl1, hl2⟩ := hl
  simp only at *
  refine callsR Try.func28 rfl rfl (by kernel_rfl) rfl ?_
  have hw := Below.refl w.heap.size w
  refine rk_seq ?_
  refine rk_region ?_
  refine wl_boxg [_, _, _] rfl (by rfl) ?_
  rintro g1 w1 f1 b1 i1 i1_1
  have s1 := b1.size
  replace hw := hw.trans (b1.mono hw.size)
  refine wl_p (fun _ => o_assign rfl) ?_
  refine wl_nil ?_
  refine rk_seq ?_
  refine rk_seq ?_
  refine rk_draw (id := 1) (none) [0, 1, 2, 4, 8, 24, 40, 72, 192, 256, 768, 1280, 2304, 6144, 8192, 24576, 40960, 73728, 139264, 262144, 786432, 1310720, 2359296, 4464640, 8658944, 16777216, 50331648, 83886080, 150994944, 16777216, 553648128, 1090519040, 2164260864, 4580179968, 8606720000, 17179877376] [0, 1, 3, 7, 15, 31, 63, 127, 255, 511, 1023, 2047, 4095, 8191, 16383, 32767, 65535, 131071, 262143, 524287, 1048575, 2097151, 4194303, 8388607, 16777215, 33554431, 67108863, 134217727, 268435455, 33554431, 570425343, 1644167167, 3791650815, 8589934591, 17179869183, 34359738367] 2112 0 [(.p, 0), (.r, 1), (.p, 2), (.p, 3), (.p, 4), (.r, 5), (.l, 6), (.p, 7), (.p, 8), (.p, 9), (.r, 10), (.l, 11), (.p, 12), (.p, 13), (.p, 14), (.r, 15), (.p, 16), (.p, 17), (.p, 18), (.p, 19), (.r, 20), (.p, 21), (.p, 22), (.p, 23), (.p, 24), (.p, 25), (.r, 26), (.p, 27), (.r, 28), (.p, 29), (.r, 30), (.p, 31), (.r, 32), (.p, 33), (.p, 34), (.p, 35)] (by kernel_rfl) (by kernel_rfl) (by kernel_rfl) (by kernel_rfl) (by kernel_rfl) ?_
  replace hw := hw.drew
  replace f1 := f1.d
  refine wl_p (fun _ => o_faddr (s := 25) (i := 0) (off := 0) Try.underlying25 rfl Try.sizeOf3 rfl rfl rfl) ?_
  refine wl_r (o_loadbg Try.isAgg3 rfl f1 (by rfl)) ?_
  refine wl_p (fun _ => o_lt rfl rfl) ?_
  refine wl_p (fun _ => o_move rfl) ?_
  refine wl_bool 6 rfl (fun h6 => ?_) (fun h6 => ?_) <;> try simp only [decide_eq_true_eq, decide_eq_false_iff_not, Bool.not_eq_true', Bool.not_eq_false', Bool.and_eq_true, Bool.and_eq_false_iff, Bool.or_eq_true, Bool.or_eq_false_iff] at h6
  · have e : pCheck ⟨k, L, M⟩ = 2 := by simp [pCheck, pBad, h6]
    rw [e]
    refine wl_off ?_
    refine wl_off ?_
    refine wl_off ?_
    refine wl_p (fun _ => o_pick_t rfl rfl) ?_
    refine wl_p (fun _ => o_move rfl) ?_
    refine wl_off ?_
    refine wl_off ?_
    refine wl_off ?_
    refine wl_p (fun _ => o_pick_t rfl rfl) ?_
    refine wl_p (fun _ => o_move rfl) ?_
    refine wl_off ?_
    refine wl_off ?_
    refine wl_off ?_
    refine wl_off ?_
    refine wl_off ?_
    refine wl_off ?_
    refine wl_off ?_
    refine wl_off ?_
    refine wl_off ?_
    refine wl_off ?_
    refine wl_off ?_
    refine wl_off ?_
    refine wl_off ?_
    refine wl_off ?_
    refine wl_off ?_
    refine wl_off ?_
    refine wl_off ?_
    refine wl_off ?_
    refine wl_off ?_
    refine wl_off ?_
    refine wl_off ?_
    refine wl_p (fun _ => o_pick_t rfl rfl) ?_
    refine wl_nild ?_
    refine rk_true rfl ?_
    refine rk_seq ?_
    refine rk_region ?_
    refine wl_p (fun _ => o_assign rfl) ?_
    refine wl_nil ?_
    refine ret1 rfl rfl ?_
    exact ⟨rfl, hw⟩
  have hk0 : decide (k < 0) = false := decide_eq_false h6
  refine wl_p (fun _ => o_faddr (s := 25) (i := 1) (off := 1) Try.underlying25 rfl Try.sizeOf23 rfl rfl rfl) ?_
  refine wl_r (o_loadbg Try.isAgg23 rfl f1 (by rfl)) ?_
  refine wl_call rfl (C_twice (c) rfl _ (hA.u hw) (by omega)) ?_
  rintro v9 w9 ⟨rfl, b9⟩
  simp only [drew_size] at b9
  have s9 := b9.size
  simp only [drew_size] at s9
  replace hw := hw.trans (b9.mono hw.size)
  replace f1 := f1.u b9
  refine wl_p (fun _ => o_pick_f rfl rfl) ?_
  refine wl_p (fun _ => o_move rfl) ?_
  refine wl_bool 11 rfl (fun h11 => ?_) (fun h11 => ?_) <;> try simp only [decide_eq_true_eq, decide_eq_false_iff_not, Bool.not_eq_true', Bool.not_eq_false', Bool.and_eq_true, Bool.and_eq_false_iff, Bool.or_eq_true, Bool.or_eq_false_iff] at h11
  · have e : pCheck ⟨k, L, M⟩ = 2 := by simp [pCheck, pBad, h11]
    rw [e]
    refine wl_off ?_
    refine wl_off ?_
    refine wl_off ?_
    refine wl_p (fun _ => o_pick_t rfl rfl) ?_
    refine wl_p (fun _ => o_move rfl) ?_
    refine wl_off ?_
    refine wl_off ?_
    refine wl_off ?_
    refine wl_off ?_
    refine wl_off ?_
    refine wl_off ?_
    refine wl_off ?_
    refine wl_off ?_
    refine wl_off ?_
    refine wl_off ?_
    refine wl_off ?_
    refine wl_off ?_
    refine wl_off ?_
    refine wl_off ?_
    refine wl_off ?_
    refine wl_off ?_
    refine wl_off ?_
    refine wl_off ?_
    refine wl_off ?_
    refine wl_off ?_
    refine wl_off ?_
    refine wl_p (fun _ => o_pick_t rfl rfl) ?_
    refine wl_nild ?_
    refine rk_true rfl ?_
    refine rk_seq ?_
    refine rk_region ?_
    refine wl_p (fun _ => o_assign rfl) ?_
    refine wl_nil ?_
    refine ret1 rfl rfl ?_
    exact ⟨rfl, hw⟩
  refine wl_p (fun _ => o_faddr (s := 25) (i := 2) (off := 2) Try.underlying25 rfl Try.sizeOf23 rfl rfl rfl) ?_
  refine wl_r (o_loadbg Try.isAgg23 rfl f1 (by rfl)) ?_
  refine wl_call rfl (C_twice (d) rfl _ (hB.u hw) (by omega)) ?_
  rintro v14 w14 ⟨rfl, b14⟩
  have s14 := b14.size
  replace hw := hw.trans (b14.mono hw.size)
  replace f1 := f1.u b14
  refine wl_p (fun _ => o_pick_f rfl rfl) ?_
  refine wl_p (fun _ => o_move rfl) ?_
  refine wl_bool 16 rfl (fun h16 => ?_) (fun h16 => ?_) <;> try simp only [decide_eq_true_eq, decide_eq_false_iff_not, Bool.not_eq_true', Bool.not_eq_false', Bool.and_eq_true, Bool.and_eq_false_iff, Bool.or_eq_true, Bool.or_eq_false_iff] at h16
  · have e : pCheck ⟨k, L, M⟩ = 2 := by simp [pCheck, pBad, h16]
    rw [e]
    refine wl_off ?_
    refine wl_off ?_
    refine wl_off ?_
    refine wl_off ?_
    refine wl_off ?_
    refine wl_off ?_
    refine wl_off ?_
    refine wl_off ?_
    refine wl_off ?_
    refine wl_off ?_
    refine wl_off ?_
    refine wl_off ?_
    refine wl_off ?_
    refine wl_off ?_
    refine wl_off ?_
    refine wl_off ?_
    refine wl_off ?_
    refine wl_off ?_
    refine wl_off ?_
    refine wl_off ?_
    refine wl_off ?_
    refine wl_p (fun _ => o_pick_t rfl rfl) ?_
    refine wl_nild ?_
    refine rk_true rfl ?_
    refine rk_seq ?_
    refine rk_region ?_
    refine wl_p (fun _ => o_assign rfl) ?_
    refine wl_nil ?_
    refine ret1 rfl rfl ?_
    exact ⟨rfl, hw⟩
  have e : pCheck ⟨k, L, M⟩ = if heads L M then 2 else 0 := by simp [pCheck, pBad, h6, h11, h16]
  rw [e]
  refine wl_p (fun _ => o_faddr (s := 25) (i := 1) (off := 1) Try.underlying25 rfl Try.sizeOf23 rfl rfl rfl) ?_
  refine wl_r (o_loadbg Try.isAgg23 rfl f1 (by rfl)) ?_
  refine wl_p (fun _ => o_len (t := 23) Try.underlying23 rfl) ?_
  refine wl_p (fun _ => o_gt rfl rfl) ?_
  refine wl_p (fun _ => o_move rfl) ?_
  refine wl_bool 21 rfl (fun h21 => ?_) (fun h21 => ?_) <;> try simp only [decide_eq_true_eq, decide_eq_false_iff_not, Bool.not_eq_true', Bool.not_eq_false', Bool.and_eq_true, Bool.and_eq_false_iff, Bool.or_eq_true, Bool.or_eq_false_iff] at h21
  · refine wl_p (fun _ => o_faddr (s := 25) (i := 2) (off := 2) Try.underlying25 rfl Try.sizeOf23 rfl rfl rfl) ?_
    refine wl_r (o_loadbg Try.isAgg23 rfl f1 (by rfl)) ?_
    refine wl_p (fun _ => o_len (t := 23) Try.underlying23 rfl) ?_
    refine wl_p (fun _ => o_gt rfl rfl) ?_
    refine wl_p (fun _ => o_pick_t rfl rfl) ?_
    refine wl_p (fun _ => o_move rfl) ?_
    refine wl_bool 27 rfl (fun h27 => ?_) (fun h27 => ?_) <;> try simp only [decide_eq_true_eq, decide_eq_false_iff_not, Bool.not_eq_true', Bool.not_eq_false', Bool.and_eq_true, Bool.and_eq_false_iff, Bool.or_eq_true, Bool.or_eq_false_iff] at h27
    · have e2 := heads_get (L := L) (M := M) (by omega) (by omega)
      rw [e2]
      refine wl_p (fun _ => o_faddr (s := 25) (i := 1) (off := 1) Try.underlying25 rfl Try.sizeOf23 rfl rfl rfl) ?_
      refine wl_r (o_loadbg Try.isAgg23 rfl f1 (by rfl)) ?_
      refine wl_p (fun _ => (o_iaddrA (0) Try.underlying23 Try.sizeOf50 rfl rfl (by omega) (Reads.some_ hA.to_Reads (by decide) (by omega)) (by omega))) ?_
      refine wl_r (o_loadDR rfl (hA.u hw) (by omega)) ?_
      refine wl_p (fun _ => o_faddr (s := 25) (i := 2) (off := 2) Try.underlying25 rfl Try.sizeOf23 rfl rfl rfl) ?_
      refine wl_r (o_loadbg Try.isAgg23 rfl f1 (by rfl)) ?_
      refine wl_p (fun _ => (o_iaddrA (0) Try.underlying23 Try.sizeOf50 rfl rfl (by omega) (Reads.some_ hB.to_Reads (by decide) (by omega)) (by omega))) ?_
      refine wl_r (o_loadDR rfl (hB.u hw) (by omega)) ?_
      refine wl_p (fun _ => o_deq rfl rfl) ?_
      refine wl_p (fun _ => o_pick_t rfl rfl) ?_
      refine wl_p (fun _ => o_pick_f rfl rfl) ?_
      refine wl_nild ?_
      refine rk_if rfl (fun h38 => ?_) (fun h38 => ?_)
      · refine rk_seq ?_
        refine rk_region ?_
        refine wl_p (fun _ => o_assign rfl) ?_
        refine wl_nil ?_
        refine ret1 rfl rfl ?_
        exact ⟨by simp [h38], hw⟩
      · refine rk_skip ?_
        refine rk_seq ?_
        refine rk_region ?_
        refine wl_p (fun _ => o_assign rfl) ?_
        refine wl_nil ?_
        refine ret1 rfl rfl ?_
        exact ⟨by simp [h38], hw⟩
    · rw [heads_nil (.inr (by omega))]
      refine wl_off ?_
      refine wl_off ?_
      refine wl_off ?_
      refine wl_off ?_
      refine wl_off ?_
      refine wl_off ?_
      refine wl_off ?_
      refine wl_off ?_
      refine wl_off ?_
      refine wl_p (fun _ => o_pick_f rfl rfl) ?_
      refine wl_p (fun _ => o_pick_f rfl rfl) ?_
      refine wl_nild ?_
      refine rk_false rfl ?_
      refine rk_skip ?_
      refine rk_seq ?_
      refine rk_region ?_
      refine wl_p (fun _ => o_assign rfl) ?_
      refine wl_nil ?_
      refine ret1 rfl rfl ?_
      exact ⟨rfl, hw⟩
  · rw [heads_nil (.inl (by omega))]
    refine wl_off ?_
    refine wl_off ?_
    refine wl_off ?_
    refine wl_off ?_
    refine wl_p (fun _ => o_pick_f rfl rfl) ?_
    refine wl_p (fun _ => o_move rfl) ?_
    refine wl_off ?_
    refine wl_off ?_
    refine wl_off ?_
    refine wl_off ?_
    refine wl_off ?_
    refine wl_off ?_
    refine wl_off ?_
    refine wl_off ?_
    refine wl_off ?_
    refine wl_p (fun _ => o_pick_f rfl rfl) ?_
    refine wl_p (fun _ => o_pick_f rfl rfl) ?_
    refine wl_nild ?_
    refine rk_false rfl ?_
    refine rk_skip ?_
    refine rk_seq ?_
    refine rk_region ?_
    refine wl_p (fun _ => o_assign rfl) ?_
    refine wl_nil ?_
    refine ret1 rfl rfl ?_
    exact ⟨rfl, hw⟩

theorem C_refDepth {p : Pl} {v : Value} {r : Bool} (w : World) (hp : PlV w p v) (hr : pBad p = r) (hl : lim p) :
    CallsR Try.prog 29 [v] w fun v w' => v = .int .i64 (if r then 0 else p.undo.length : Nat) ∧ Below w.heap.size w w' := by
  subst hr
  obtain ⟨A, c, B, d, rfl, hA, hB, hc, hd⟩ := hp
  obtain ⟨k, L, M⟩ := p
  obtain ⟨hl1, hl2⟩ := hl
  simp only at *
  refine callsR Try.func29 rfl rfl (by kernel_rfl) rfl ?_
  have hw := Below.refl w.heap.size w
  cases hb : pBad ⟨k, L, M⟩ with
  | true =>
    have hc : pCheck ⟨k, L, M⟩ = 2 := by simp [pCheck, hb]
    refine rk_seq ?_
    refine rk_region ?_
    refine wl_boxg [_, _, _] rfl (by rfl) ?_
    rintro g1 w1 f1 b1 i1 i1_1
    have s1 := b1.size
    replace hw := hw.trans (b1.mono hw.size)
    refine wl_p (fun _ => o_assign rfl) ?_
    refine wl_nil ?_
    refine rk_seq ?_
    refine rk_seq ?_
    refine rk_region ?_
    refine wl_r (o_loadag Try.isAgg25 Try.sizeOf25 rfl f1 (by rfl)) ?_
    refine wl_call rfl (C_refCheck _ (PlV.mk_ (hA.u hw) (hB.u hw) rfl rfl (by omega) (by omega)) hc ⟨by simp only; omega, by simp only; omega⟩) ?_
    rintro v4 w4 ⟨rfl, b4⟩
    have s4 := b4.size
    replace hw := hw.trans (b4.mono hw.size)
    replace f1 := f1.u b4
    refine wl_p (fun _ => o_ne rfl rfl) ?_
    refine wl_nil ?_
    refine rk_true rfl ?_
    refine rk_seq ?_
    refine rk_region ?_
    refine wl_p (fun _ => o_assign rfl) ?_
    refine wl_nil ?_
    refine ret1 rfl rfl ?_
    exact ⟨rfl, hw⟩
  | false =>
    have hc : pCheck ⟨k, L, M⟩ = 0 := by simp [pCheck, hb]
    refine rk_seq ?_
    refine rk_region ?_
    refine wl_boxg [_, _, _] rfl (by rfl) ?_
    rintro g1 w1 f1 b1 i1 i1_1
    have s1 := b1.size
    replace hw := hw.trans (b1.mono hw.size)
    refine wl_p (fun _ => o_assign rfl) ?_
    refine wl_nil ?_
    refine rk_seq ?_
    refine rk_seq ?_
    refine rk_region ?_
    refine wl_r (o_loadag Try.isAgg25 Try.sizeOf25 rfl f1 (by rfl)) ?_
    refine wl_call rfl (C_refCheck _ (PlV.mk_ (hA.u hw) (hB.u hw) rfl rfl (by omega) (by omega)) hc ⟨by simp only; omega, by simp only; omega⟩) ?_
    rintro v4 w4 ⟨rfl, b4⟩
    have s4 := b4.size
    replace hw := hw.trans (b4.mono hw.size)
    replace f1 := f1.u b4
    refine wl_p (fun _ => o_ne rfl rfl) ?_
    refine wl_nil ?_
    refine rk_false rfl ?_
    refine rk_skip ?_
    refine rk_seq ?_
    refine rk_region ?_
    refine wl_p (fun _ => o_faddr (s := 25) (i := 1) (off := 1) Try.underlying25 rfl Try.sizeOf23 rfl rfl rfl) ?_
    refine wl_r (o_loadbg Try.isAgg23 rfl f1 (by rfl)) ?_
    refine wl_p (fun _ => o_len (t := 23) Try.underlying23 rfl) ?_
    refine wl_p (fun _ => o_assign rfl) ?_
    refine wl_nil ?_
    refine ret1 rfl rfl ?_
    exact ⟨rfl, hw⟩

theorem C_refSpares {p : Pl} {v : Value} {r : Bool} {n : Int} (w : World) (hp : PlV w p v) (hr : pBad p = r) (hl : lim p) :
    CallsR Try.prog 30 [v, .int .i64 n] w fun v w' => v = .bool (!r && decide (n ≤ p.keep)) ∧ Below w.heap.size w w' := by
  subst hr
  obtain ⟨A, c, B, d, rfl, hA, hB, hc, hd⟩ := hp
  obtain ⟨k, L, M⟩ := p
  obtain ⟨hl1, hl2⟩ := hl
  simp only at *
  refine callsR Try.func30 rfl rfl (by kernel_rfl) rfl ?_
  have hw := Below.refl w.heap.size w
  cases hb : pBad ⟨k, L, M⟩ with
  | true =>
    have hc : pCheck ⟨k, L, M⟩ = 2 := by simp [pCheck, hb]
    refine rk_seq ?_
    refine rk_region ?_
    refine wl_boxg [_, _, _] rfl (by rfl) ?_
    rintro g2 w2 f2 b2 i2 i2_1
    have s2 := b2.size
    replace hw := hw.trans (b2.mono hw.size)
    refine wl_p (fun _ => o_assign rfl) ?_
    refine wl_nil ?_
    refine rk_seq ?_
    refine rk_region ?_
    refine wl_r (o_loadag Try.isAgg25 Try.sizeOf25 rfl f2 (by rfl)) ?_
    refine wl_call rfl (C_refCheck _ (PlV.mk_ (hA.u hw) (hB.u hw) rfl rfl (by omega) (by omega)) hc ⟨by simp only; omega, by simp only; omega⟩) ?_
    rintro v6 w6 ⟨rfl, b6⟩
    have s6 := b6.size
    replace hw := hw.trans (b6.mono hw.size)
    replace f2 := f2.u b6
    refine wl_p (fun _ => o_eq rfl rfl) ?_
    refine wl_p (fun _ => o_move rfl) ?_
    refine wl_off ?_
    refine wl_off ?_
    refine wl_off ?_
    refine wl_off ?_
    refine wl_p (fun _ => o_pick_f rfl rfl) ?_
    refine wl_p (fun _ => o_assign rfl) ?_
    refine wl_nil ?_
    refine ret1 rfl rfl ?_
    exact ⟨by simp, hw⟩
  | false =>
    have hc : pCheck ⟨k, L, M⟩ = 0 := by simp [pCheck, hb]
    refine rk_seq ?_
    refine rk_region ?_
    refine wl_boxg [_, _, _] rfl (by rfl) ?_
    rintro g2 w2 f2 b2 i2 i2_1
    have s2 := b2.size
    replace hw := hw.trans (b2.mono hw.size)
    refine wl_p (fun _ => o_assign rfl) ?_
    refine wl_nil ?_
    refine rk_seq ?_
    refine rk_region ?_
    refine wl_r (o_loadag Try.isAgg25 Try.sizeOf25 rfl f2 (by rfl)) ?_
    refine wl_call rfl (C_refCheck _ (PlV.mk_ (hA.u hw) (hB.u hw) rfl rfl (by omega) (by omega)) hc ⟨by simp only; omega, by simp only; omega⟩) ?_
    rintro v6 w6 ⟨rfl, b6⟩
    have s6 := b6.size
    replace hw := hw.trans (b6.mono hw.size)
    replace f2 := f2.u b6
    refine wl_p (fun _ => o_eq rfl rfl) ?_
    refine wl_p (fun _ => o_move rfl) ?_
    refine wl_p (fun _ => o_faddr (s := 25) (i := 0) (off := 0) Try.underlying25 rfl Try.sizeOf3 rfl rfl rfl) ?_
    refine wl_r (o_loadbg Try.isAgg3 rfl f2 (by rfl)) ?_
    refine wl_p (fun _ => o_move rfl) ?_
    refine wl_p (fun _ => o_ge rfl rfl) ?_
    refine wl_p (fun _ => o_pick_t rfl rfl) ?_
    refine wl_p (fun _ => o_assign rfl) ?_
    refine wl_nil ?_
    refine ret1 rfl rfl ?_
    exact ⟨by simp, hw⟩

theorem C_refApply {p : Pl} {v : Value} {C : Option Addr} {old : List Dg} {k e : Nat} {r : List Dg × Nat} (w : World) (hp : PlV w p v) (hC : RD w C old) (hr : pApply p old = r) (hk : k = old.length) (hl : lim p) (hle : old.length ≤ e) (hlo : old.length ≤ 2000000) :
    CallsR Try.prog 25 [v, .slice C k e] w fun v w' => ∃ A c, v = .tuple #[.slice A r.1.length c, .int .i64 r.2] ∧ OwnD w' w.heap.size A c r.1 ∧ Below w.heap.size w w' := by
  subst hr; subst hk
  obtain ⟨A, c, B, d, rfl, hA, hB, hc, hd⟩ := hp
  obtain ⟨kk, L, M⟩ := p
  obtain ⟨hl1, hl2⟩ := hl
  simp only at *
  refine callsR Try.func25 rfl rfl (by kernel_rfl) rfl ?_
  have hw := Below.refl w.heap.size w
  cases hb : pBad ⟨kk, L, M⟩ with
  | true =>
    have hc : pCheck ⟨kk, L, M⟩ = 2 := by simp [pCheck, hb]
    have ea : pApply ⟨kk, L, M⟩ old = ([], 2) := by simp [pApply, hb]
    rw [ea]
    refine rk_seq ?_
    refine rk_region ?_
    refine wl_boxg [_, _, _] rfl (by rfl) ?_
    rintro g2 w2 f2 b2 i2 i2_1
    have s2 := b2.size
    replace hw := hw.trans (b2.mono hw.size)
    refine wl_p (fun _ => o_assign rfl) ?_
    refine wl_p (fun _ => o_assign rfl) ?_
    refine wl_nil ?_
    refine rk_seq ?_
    refine rk_seq ?_
    refine rk_region ?_
    refine wl_r (o_loadag Try.isAgg25 Try.sizeOf25 rfl f2 (by rfl)) ?_
    refine wl_call rfl (C_refCheck _ (PlV.mk_ (hA.u hw) (hB.u hw) rfl rfl (by omega) (by omega)) hc ⟨by simp only; omega, by simp only; omega⟩) ?_
    rintro v8 w8 ⟨rfl, b8⟩
    have s8 := b8.size
    replace hw := hw.trans (b8.mono hw.size)
    replace f2 := f2.u b8
    refine wl_p (fun _ => o_ne rfl rfl) ?_
    refine wl_nil ?_
    refine rk_true rfl ?_
    refine rk_seq ?_
    refine rk_region ?_
    refine wl_p (fun _ => o_assign rfl) ?_
    refine wl_p (fun _ => o_assign rfl) ?_
    refine wl_nil ?_
    refine ret2 rfl rfl rfl ?_
    exact ⟨none, 0, rfl, OwnD.nil _ _, hw⟩
  | false =>
    have hc : pCheck ⟨kk, L, M⟩ = 0 := by simp [pCheck, hb]
    have hk0 := pBad_keep hb
    obtain ⟨n, en⟩ := Int.eq_ofNat_of_zero_le hk0
    simp only at en
    subst en
    refine rk_seq ?_
    refine rk_region ?_
    refine wl_boxg [_, _, _] rfl (by rfl) ?_
    rintro g2 w2 f2 b2 i2 i2_1
    have s2 := b2.size
    replace hw := hw.trans (b2.mono hw.size)
    refine wl_p (fun _ => o_assign rfl) ?_
    refine wl_p (fun _ => o_assign rfl) ?_
    refine wl_nil ?_
    refine rk_seq ?_
    refine rk_seq ?_
    refine rk_region ?_
    refine wl_r (o_loadag Try.isAgg25 Try.sizeOf25 rfl f2 (by rfl)) ?_
    refine wl_call rfl (C_refCheck _ (PlV.mk_ (hA.u hw) (hB.u hw) rfl rfl (by omega) (by omega)) hc ⟨by simp only; omega, by simp only; omega⟩) ?_
    rintro v8 w8 ⟨rfl, b8⟩
    have s8 := b8.size
    replace hw := hw.trans (b8.mono hw.size)
    replace f2 := f2.u b8
    refine wl_p (fun _ => o_ne rfl rfl) ?_
    refine wl_nil ?_
    refine rk_false rfl ?_
    refine rk_skip ?_
    refine rk_seq ?_
    refine rk_seq ?_
    refine rk_draw (id := 3) (none) [0, 1, 0, 4, 10, 16, 32, 32, 160, 352, 32, 1056, 2592, 4128, 8224] [0, 1, 0, 4, 15, 31, 63, 63, 191, 511, 63, 1087, 4095, 8191, 16383] 4096 0 [(.p, 0), (.r, 1), (.p, 2), (.p, 3), (.p, 4), (.p, 5), (.p, 6), (.p, 7), (.r, 8), (.p, 9), (.p, 10), (.r, 11), (.l, 12), (.p, 13), (.p, 14)] (by kernel_rfl) (by kernel_rfl) (by kernel_rfl) (by kernel_rfl) (by kernel_rfl) ?_
    replace hw := hw.drew
    replace f2 := f2.d
    refine wl_p (fun _ => o_faddr (s := 25) (i := 0) (off := 0) Try.underlying25 rfl Try.sizeOf3 rfl rfl rfl) ?_
    refine wl_r (o_loadbg Try.isAgg3 rfl f2 (by rfl)) ?_
    refine wl_p (fun _ => o_move rfl) ?_
    refine wl_p (fun _ => o_len (t := 23) Try.underlying23 rfl) ?_
    refine wl_p (fun _ => o_gt rfl rfl) ?_
    refine wl_p (fun _ => o_move rfl) ?_
    refine wl_bool 15 rfl (fun h15 => ?_) (fun h15 => ?_) <;> try simp only [decide_eq_true_eq, decide_eq_false_iff_not, Bool.not_eq_true', Bool.not_eq_false', Bool.and_eq_true, Bool.and_eq_false_iff, Bool.or_eq_true, Bool.or_eq_false_iff] at h15
    · have hf : pFits ⟨(n : Int), L, M⟩ old = false := by
        cases hf : pFits ⟨(n : Int), L, M⟩ old with
        | false => rfl
        | true => have := (pFits_iff.1 hf).1; omega
      rw [pApply_no hb hf]
      refine wl_off ?_
      refine wl_off ?_
      refine wl_off ?_
      refine wl_off ?_
      refine wl_off ?_
      refine wl_off ?_
      refine wl_off ?_
      refine wl_off ?_
      refine wl_p (fun _ => o_pick_t rfl rfl) ?_
      refine wl_nild ?_
      refine rk_true rfl ?_
      refine rk_seq ?_
      refine rk_region ?_
      refine wl_p (fun _ => o_assign rfl) ?_
      refine wl_p (fun _ => o_assign rfl) ?_
      refine wl_nil ?_
      refine ret2 rfl rfl rfl ?_
      exact ⟨none, 0, rfl, OwnD.nil _ _, hw⟩
    have hn : n ≤ old.length := by omega
    refine wl_p (fun _ => o_move rfl) ?_
    refine wl_p (fun _ => o_faddr (s := 25) (i := 0) (off := 0) Try.underlying25 rfl Try.sizeOf3 rfl rfl rfl) ?_
    refine wl_r (o_loadbg Try.isAgg3 rfl f2 (by rfl)) ?_
    refine wl_slloD (n) rfl rfl (hC.u hw) rfl rfl (by omega) (by omega) ?_
    rintro A19 f19
    refine wl_p (fun _ => o_faddr (s := 25) (i := 1) (off := 1) Try.underlying25 rfl Try.sizeOf23 rfl rfl rfl) ?_
    refine wl_r (o_loadbg Try.isAgg23 rfl f2 (by rfl)) ?_
    refine wl_call rfl (C_refSame _ f19 (hA.u hw) (by simp) rfl (by simp; omega) (by omega) (by simp; omega) (by omega)) ?_
    rintro v22 w22 ⟨rfl, b22⟩
    simp only [drew_size] at b22
    have s22 := b22.size
    simp only [drew_size] at s22
    replace hw := hw.trans (b22.mono hw.size)
    replace f19 := f19.u b22
    replace f2 := f2.u b22
    refine wl_p (fun _ => o_not rfl) ?_
    refine wl_p (fun _ => o_pick_f rfl rfl) ?_
    refine wl_nild ?_
    refine rk_cond rfl (fun h24 => ?_) (fun h24 => ?_) <;> try simp only [decide_eq_true_eq, decide_eq_false_iff_not, Bool.not_eq_true', Bool.not_eq_false', Bool.and_eq_true, Bool.and_eq_false_iff, Bool.or_eq_true, Bool.or_eq_false_iff] at h24
    · have hf : pFits ⟨(n : Int), L, M⟩ old = false := by
        cases hf : pFits ⟨(n : Int), L, M⟩ old with
        | false => rfl
        | true => have := (pFits_iff.1 hf).2.1; simp_all
      rw [pApply_no hb hf]
      refine rk_seq ?_
      refine rk_region ?_
      refine wl_p (fun _ => o_assign rfl) ?_
      refine wl_p (fun _ => o_assign rfl) ?_
      refine wl_nil ?_
      refine ret2 rfl rfl rfl ?_
      exact ⟨none, 0, rfl, OwnD.nil _ _, hw⟩
    have hL : old.drop n = L := Classical.byContradiction fun h => by simp [h] at h24
    refine rk_skip ?_
    refine rk_seq ?_
    refine rk_seq ?_
    refine rk_region ?_
    refine wl_p (fun _ => o_assign rfl) ?_
    refine wl_nil ?_
    refine rk_block ?_
    refine rk_joinf (fun fb fr w2 => fr = [] ++ fb.drop 1 ∧ (∀ q ∈ M, q ∉ old.take n) ∧ Below w22.heap.size w22 w2) ?_ (fun ks hj => ?_)
    rotate_left
    · refine rk_loopf (fun fb m fr w2 => ∃ (i : Nat) (v : Int), fr = [(6, .int .i64 v)] ++ fb ∧ v = i ∧ i ≤ M.length ∧ m = M.length - i ∧ (∀ q ∈ M.take i, q ∉ old.take n) ∧ Below w22.heap.size w22 w2) (n := M.length) (Fr.le_of (by kernel_rfl) (by kernel_rfl) (by repeat' constructor)) ⟨0, _, rfl, rfl, by omega, rfl, by simp, Below.refl _ _⟩ ?_
      rintro m fr w2 ⟨i, v, rfl, rfl, hi, rfl, hni, hw1⟩
      first | refine rk_frame (by simp only [List.cons_append, List.nil_append, List.drop_succ_cons, List.drop_zero]; rfl) ?_ | refine wl_frame (by simp only [List.cons_append, List.nil_append, List.drop_succ_cons, List.drop_zero]; rfl) ?_
      have shw1 := hw1.size
      replace hw := hw.trans (hw1.mono hw.size)
      replace f2 := f2.u hw1
      replace f19 := f19.u hw1
      refine rk_seq ?_
      refine rk_seq ?_
      refine rk_region ?_
      refine wl_p (fun _ => o_move rfl) ?_
      refine wl_p (fun _ => o_faddr (s := 25) (i := 2) (off := 2) Try.underlying25 rfl Try.sizeOf23 rfl rfl rfl) ?_
      refine wl_r (o_loadbg Try.isAgg23 rfl f2 (by rfl)) ?_
      refine wl_p (fun _ => o_len (t := 23) Try.underlying23 rfl) ?_
      refine wl_p (fun _ => o_lt rfl rfl) ?_
      refine wl_nil ?_
      refine rk_if rfl (fun h29 => ?_) (fun h29 => ?_)
      · have hil : i < M.length := by omega
        refine rk_skip ?_
        refine rk_seq ?_
        refine rk_block ?_
        refine rk_seq ?_
        refine rk_draw (id := 8) (none) [0, 0, 2, 5, 0, 16, 0, 96, 128, 264, 512] [0, 0, 2, 7, 0, 16, 0, 112, 240, 511, 1023] 512 0 [(.p, 0), (.p, 1), (.r, 2), (.p, 3), (.p, 4), (.r, 5), (.p, 6), (.p, 7), (.r, 8), (.l, 9), (.p, 10)] (by kernel_rfl) (by kernel_rfl) (by kernel_rfl) (by kernel_rfl) (by kernel_rfl) ?_
        replace hw1 := hw1.drew
        replace hw := hw.drew
        replace f19 := f19.d
        replace f2 := f2.d
        refine wl_p (fun _ => o_move rfl) ?_
        refine wl_p (fun _ => o_faddr (s := 25) (i := 0) (off := 0) Try.underlying25 rfl Try.sizeOf3 rfl rfl rfl) ?_
        refine wl_r (o_loadbg Try.isAgg3 rfl f2 (by rfl)) ?_
        refine wl_slhiD (n) rfl rfl (hC.u hw) rfl rfl (by omega) (by omega) ?_
        rintro f35
        refine wl_p (fun _ => o_faddr (s := 25) (i := 2) (off := 2) Try.underlying25 rfl Try.sizeOf23 rfl rfl rfl) ?_
        refine wl_r (o_loadbg Try.isAgg23 rfl f2 (by rfl)) ?_
        refine wl_p (fun _ => o_move rfl) ?_
        refine wl_p (fun _ => (o_iaddrA (i) Try.underlying23 Try.sizeOf50 rfl rfl rfl (Reads.some_ hB.to_Reads (by decide) (by omega)) (by omega))) ?_
        refine wl_r (o_loadDR rfl (hB.u hw) (by omega)) ?_
        refine wl_call rfl (C_refPlace _ f35 (by simp; omega) (by simp; omega)) ?_
        rintro v41 w41 ⟨z41, ⟨rfl, ⟨i41, b41⟩⟩⟩
        simp only [drew_size] at b41
        have s41 := b41.size
        simp only [drew_size] at s41
        replace hw1 := hw1.trans (b41.mono hw1.size)
        replace hw := hw.trans (b41.mono hw.size)
        replace f35 := f35.u b41
        replace f2 := f2.u b41
        replace f19 := f19.u b41
        refine wl_p (fun _ => o_ge rfl rfl) ?_
        refine wl_nild ?_
        refine rk_if rfl (fun h42 => ?_) (fun h42 => ?_)
        · have hin : M[i] ∈ old.take n := i41.1 (by omega)
          have hf : pFits ⟨(n : Int), L, M⟩ old = false := by
            cases hf : pFits ⟨(n : Int), L, M⟩ old with
            | false => rfl
            | true => exact absurd hin ((pFits_iff.1 hf).2.2 _ (List.getElem_mem hil))
          rw [pApply_no hb hf]
          refine rk_seq ?_
          refine rk_region ?_
          refine wl_p (fun _ => o_assign rfl) ?_
          refine wl_p (fun _ => o_assign rfl) ?_
          refine wl_nil ?_
          refine ret2 rfl rfl rfl ?_
          exact ⟨none, 0, rfl, OwnD.nil _ _, hw⟩
        · refine rk_skip ?_
          refine rk_blk ?_
          refine rk_region ?_
          refine wl_p (fun _ => o_move rfl) ?_
          refine wl_p (fun _ => o_add rfl rfl (by omega) (by omega)) ?_
          refine wl_p (fun _ => o_assign rfl) ?_
          refine wl_nil ?_
          exact rk_againf (Fr.le_of (by kernel_rfl) (by kernel_rfl) (by repeat' constructor)) ⟨i + 1, (i : Int) + 1, rfl, by omega, by omega, rfl, fun q hq => by
            rw [List.take_succ_eq_append_getElem hil, List.mem_append, List.mem_singleton] at hq
            rcases hq with hq | rfl
            · exact hni q hq
            · exact fun hin => by have := i41.2 hin; omega, hw1⟩ (by omega)
      · have e : M.take i = M := List.take_of_length_le (by omega)
        rw [e] at hni
        refine rk_exit rfl ?_
        exact rk_tof hj (Fr.le_of (by kernel_rfl) (by kernel_rfl) (by repeat' constructor)) ⟨rfl, hni, hw1⟩
    rintro fr w2 ⟨rfl, hni, bj⟩
    have hf : pFits ⟨(n : Int), L, M⟩ old = true := pFits_iff.2 ⟨hn, hL, hni⟩
    rw [pApply_ok hb hf]
    simp only [Int.toNat_natCast]
    first | refine rk_frame (by simp only [List.cons_append, List.nil_append, List.drop_succ_cons, List.drop_zero]; rfl) ?_ | refine wl_frame (by simp only [List.cons_append, List.nil_append, List.drop_succ_cons, List.drop_zero]; rfl) ?_
    have sbj := bj.size
    replace hw := hw.trans (bj.mono hw.size)
    replace f2 := f2.u bj
    replace f19 := f19.u bj
    refine rk_seq ?_
    refine rk_drawo (id := 10) (none) [0, 0, 0, 4, 10, 17, 0, 64, 160, 511, 1023] [0, 0, 0, 4, 14, 31, 0, 64, 255, 511, 1023] 289 33 [1, 2, 3, 4, 6, 7, 0, 5, 8, 9, 10] [(.p, 1), (.p, 2), (.s, 3), (.p, 4), (.p, 6), (.s, 7), (.c, 0), (.c, 5), (.l, 8), (.p, 9), (.p, 10)] (by kernel_rfl) (by kernel_rfl) (by kernel_rfl) (by kernel_rfl) (by kernel_rfl) ?_
    dsimp only [inOrder, nthOp]
    replace hw := hw.drew
    replace f19 := f19.d
    replace f2 := f2.d
    refine wl_p (fun _ => o_move rfl) ?_
    refine wl_p (fun _ => o_faddr (s := 25) (i := 0) (off := 0) Try.underlying25 rfl Try.sizeOf3 rfl rfl rfl) ?_
    refine wl_s (fun _ hk => (o_loadbg Try.isAgg3 rfl (f2.u (below_of_grown_none hk)) (by rfl))) ?_
    refine wl_slhiD (n) rfl rfl (hC.u hw) rfl rfl (by omega) (by omega) ?_
    rintro f47
    refine wl_p (fun _ => o_faddr (s := 25) (i := 2) (off := 2) Try.underlying25 rfl Try.sizeOf23 rfl rfl rfl) ?_
    refine wl_s (fun _ hk => (o_loadbg Try.isAgg23 rfl (f2.u (below_of_grown_none hk)) (by rfl))) ?_
    refine wl_litDH [] (by rfl) rfl rfl (by rfl) (by rfl) (by rfl) ?_
    rintro A43 w43 f43 b43
    simp only [drew_size] at f43
    simp only [drew_size] at b43
    have qf43 := f43.cap
    have s43 := b43.size
    simp only [drew_size] at s43
    replace hw := hw.trans (b43.mono hw.size)
    replace f47 := f47.u b43
    replace f2 := f2.u b43
    replace f19 := f19.u b43
    refine wl_appDH0 rfl f43 rfl f47 (by simp; omega) (by simp; omega) (by omega) ?_
    rintro A48 c48 w48 f48 b48
    have qf48 := f48.cap
    have s48 := b48.size
    replace hw := hw.trans (b48.mono hw.size)
    replace f19 := f19.u b48
    replace f2 := f2.u b48
    replace f47 := f47.u b48
    replace f43 := f43.u b48
    refine wl_appDH rfl f48 rfl rfl (hB.u hw) rfl (by simp; omega) (by omega) ?_
    rintro A51 c51 w51 f51 g51 b51 i51
    have qf51 := f51.cap
    have s51 := g51.size
    replace hw := hw.trans (b51.mono (by omega))
    clear f43
    clear f47
    replace f2 := f2.y g51 (by decide)
    clear f19
    clear f48
    refine wl_p (fun _ => o_assign rfl) ?_
    refine wl_p (fun _ => o_assign rfl) ?_
    refine wl_nild ?_
    refine ret2 rfl rfl rfl ?_
    exact ⟨_, _, rfl, f51.to_OwnD.base (by omega), hw⟩

theorem C_refBack {p : Pl} {v : Value} {r : Pl × Nat} (w : World) (hp : PlV w p v) (hr : pBack p = r) (hl : lim p) :
    CallsR Try.prog 26 [v] w fun v w' => ∃ u, v = .tuple #[u, .int .i64 r.2] ∧ PlO w' w.heap.size r.1 u ∧ Below w.heap.size w w' := by
  subst hr
  obtain ⟨A, c, B, d, rfl, hA, hB, hc, hd⟩ := hp
  obtain ⟨k, L, M⟩ := p
  obtain ⟨hl1, hl2⟩ := hl
  simp only at *
  refine callsR Try.func26 rfl rfl (by kernel_rfl) rfl ?_
  have hw := Below.refl w.heap.size w
  cases hb : pBad ⟨k, L, M⟩ with
  | true =>
    have hcc : pCheck ⟨k, L, M⟩ = 2 := by simp [pCheck, hb]
    have eb : pBack ⟨k, L, M⟩ = (pl0, 2) := by simp [pBack, hb]
    rw [eb]
    refine rk_seq ?_
    refine rk_region ?_
    refine wl_boxg [_, _, _] rfl (by rfl) ?_
    rintro g1 w1 f1 b1 i1 i1_1
    have s1 := b1.size
    replace hw := hw.trans (b1.mono hw.size)
    refine wl_allocg [_, _, _] Try.zeroValue25 (by rfl) ?_
    rintro g2 w2 f2 b2 i2 i2_1
    have s2 := b2.size
    replace hw := hw.trans (b2.mono hw.size)
    replace f1 := f1.u b2
    refine wl_p (fun _ => o_assign rfl) ?_
    refine wl_nil ?_
    refine rk_seq ?_
    refine rk_seq ?_
    refine rk_region ?_
    refine wl_r (o_loadag Try.isAgg25 Try.sizeOf25 rfl f1 (by rfl)) ?_
    refine wl_call rfl (C_refCheck _ (PlV.mk_ (hA.u hw) (hB.u hw) rfl rfl (by omega) (by omega)) hcc ⟨by simp only; omega, by simp only; omega⟩) ?_
    rintro v5 w5 ⟨rfl, b5⟩
    have s5 := b5.size
    replace hw := hw.trans (b5.mono hw.size)
    replace f1 := f1.u b5
    replace f2 := f2.u b5
    refine wl_p (fun _ => o_ne rfl rfl) ?_
    refine wl_nil ?_
    refine rk_true rfl ?_
    refine rk_seq ?_
    refine rk_region ?_
    refine wl_p (fun _ => (o_buildg [_, _, _] Try.underlying25 Try.zeroValue25 (by rfl) (by rfl) rfl (by rfl) (by rfl) (fun _ => by kernel_rfl))) ?_
    refine wl_storega Try.sizeOf25 rfl rfl (by rfl) (by decide) f2 (by rfl) ?_
    rintro w_1 f g e
    have s := g.size
    replace hw := hw.trans (below_of_grownBy g.g hw.size (by omega))
    clear f2
    replace f1 := f1.k g.g (ap_some (by omega))
    refine wl_p (fun _ => o_assign rfl) ?_
    refine wl_nil ?_
    refine ret_cell_tmp rfl rfl rfl Try.isAgg25 Try.sizeOf25 f rfl ?_
    exact ⟨_, rfl, PlO.zero _ _, hw⟩
  | false =>
    have hcc : pCheck ⟨k, L, M⟩ = 0 := by simp [pCheck, hb]
    have eb : pBack ⟨k, L, M⟩ = (⟨k, M, L⟩, 0) := by simp [pBack, hb]
    rw [eb]
    refine rk_seq ?_
    refine rk_region ?_
    refine wl_boxg [_, _, _] rfl (by rfl) ?_
    rintro g1 w1 f1 b1 i1 i1_1
    have s1 := b1.size
    replace hw := hw.trans (b1.mono hw.size)
    refine wl_allocg [_, _, _] Try.zeroValue25 (by rfl) ?_
    rintro g2 w2 f2 b2 i2 i2_1
    have s2 := b2.size
    replace hw := hw.trans (b2.mono hw.size)
    replace f1 := f1.u b2
    refine wl_p (fun _ => o_assign rfl) ?_
    refine wl_nil ?_
    refine rk_seq ?_
    refine rk_seq ?_
    refine rk_region ?_
    refine wl_r (o_loadag Try.isAgg25 Try.sizeOf25 rfl f1 (by rfl)) ?_
    refine wl_call rfl (C_refCheck _ (PlV.mk_ (hA.u hw) (hB.u hw) rfl rfl (by omega) (by omega)) hcc ⟨by simp only; omega, by simp only; omega⟩) ?_
    rintro v5 w5 ⟨rfl, b5⟩
    have s5 := b5.size
    replace hw := hw.trans (b5.mono hw.size)
    replace f1 := f1.u b5
    replace f2 := f2.u b5
    refine wl_p (fun _ => o_ne rfl rfl) ?_
    refine wl_nil ?_
    refine rk_false rfl ?_
    refine rk_skip ?_
    refine rk_seq ?_
    refine rk_drawo (id := 3) (none) [0, 1, 0, 0, 8, 20, 0, 0, 128, 352, 546, 2047, 4095] [0, 1, 0, 0, 8, 28, 0, 0, 128, 508, 1023, 2047, 4095] 2660 612 [0, 1, 3, 4, 7, 8] [(.p, 0), (.s, 1), (.p, 3), (.s, 4), (.p, 7), (.s, 8), (.f 411 2660 612, 7)] (by kernel_rfl) (by kernel_rfl) (by kernel_rfl) (by kernel_rfl) (by kernel_rfl) ?_
    dsimp only [inOrder, nthOp]
    replace hw := hw.drew
    replace f2 := f2.d
    replace f1 := f1.d
    refine wl_p (fun _ => o_faddr (s := 25) (i := 0) (off := 0) Try.underlying25 rfl Try.sizeOf3 rfl rfl rfl) ?_
    refine wl_s (fun _ hk => (o_loadbg Try.isAgg3 rfl (f1.u (below_of_grown_none hk)) (by rfl))) ?_
    refine wl_p (fun _ => o_faddr (s := 25) (i := 2) (off := 2) Try.underlying25 rfl Try.sizeOf23 rfl rfl rfl) ?_
    refine wl_s (fun _ hk => (o_loadbg Try.isAgg23 rfl (f1.u (below_of_grown_none hk)) (by rfl))) ?_
    refine wl_p (fun _ => o_faddr (s := 25) (i := 1) (off := 1) Try.underlying25 rfl Try.sizeOf23 rfl rfl rfl) ?_
    refine wl_s (fun _ hk => (o_loadbg Try.isAgg23 rfl (f1.u (below_of_grown_none hk)) (by rfl))) ?_
    refine wl_forkf (m := 411) (L := 2660) (C := 612) (n := 7) (k1 := 2) (k2 := 6) (fun fb fr w' => ∃ A5 c5 A6 lo lo2 hi hi2, fr = [(13, .slice A5 M.length c5), (14, .slice A6 0 0)] ++ fb ∧ OwnDH w' lo hi A5 c5 M ∧ OwnDH w' lo2 hi2 A6 0 [] ∧ w.heap.size ≤ lo ∧ w.heap.size ≤ lo2 ∧ lo2 ≤ w'.heap.size ∧ Below w5.heap.size w5.drew w') [0, 1, 0, 0, 8, 20, 0, 0, 128, 352, 546, 2047, 4095] [0, 1, 0, 0, 8, 28, 0, 0, 128, 508, 1023, 2047, 4095] [2] [6, 2, 5, 9, 10, 11, 12] [9, 10, 11, 12] [(.f 415 2660 612, 6)] [(.c, 2), (.c, 5), (.c, 9), (.p, 10), (.l, 11), (.p, 12)] [(.c, 9), (.p, 10), (.l, 11), (.p, 12)] (by kernel_rfl) (by kernel_rfl) (by kernel_rfl) (by kernel_rfl) (by kernel_rfl) ?_ (fun hj => ?_) (fun hj => ?_) <;> dsimp only [inOrder, nthOp]
    · rintro fr w' ⟨A5, c5, A6, lo, lo2, hi, hi2, rfl, f13, f14, i1, i2, i3, b13⟩
      first | refine rk_frame (by simp only [List.cons_append, List.nil_append, List.drop_succ_cons, List.drop_zero]; rfl) ?_ | refine wl_frame (by simp only [List.cons_append, List.nil_append, List.drop_succ_cons, List.drop_zero]; rfl) ?_
      have sb13 := b13.size
      simp only [drew_size] at sb13
      replace hw := hw.trans (b13.mono hw.size)
      replace f1 := f1.u b13
      replace f2 := f2.u b13
      refine wl_appDH0 rfl f14 rfl (hA.u hw) rfl (by omega) (by omega) ?_
      rintro A17 c17 w17 f17 b17
      have qf17 := f17.cap
      have s17 := b17.size
      replace hw := hw.trans (b17.mono hw.size)
      replace f2 := f2.u b17
      replace f1 := f1.u b17
      replace f14 := f14.u b17
      replace f13 := f13.u b17
      refine wl_p (fun _ => (o_buildg [_, _, _] Try.underlying25 Try.zeroValue25 (by rfl) (by rfl) rfl (by rfl) (by rfl) (fun _ => by kernel_rfl))) ?_
      refine wl_storega Try.sizeOf25 rfl rfl (by rfl) (oneCell_of (by rfl)) f2 (by rfl) ?_
      rintro w_1 f g e
      have s := g.size
      replace hw := hw.trans (below_of_grownBy g.g hw.size (by omega))
      replace f13 := f13.y g (by decide)
      replace f14 := f14.y g (by decide)
      replace f1 := f1.k g.g (ap_some (by omega))
      clear f2
      replace f17 := f17.y g (by decide)
      refine wl_p (fun _ => o_assign rfl) ?_
      refine wl_nild ?_
      refine ret_cell_tmp rfl rfl rfl Try.isAgg25 Try.sizeOf25 f rfl ?_
      exact ⟨_, rfl, ⟨A5, c5, A17, c17, rfl, f13.to_OwnD.base (by omega), f17.to_OwnD.base (by omega)⟩, hw⟩
    · refine wl_litDH [] (by rfl) rfl rfl (by rfl) (by rfl) (by rfl) ?_
      rintro A10 w10 f10 b10
      simp only [drew_size] at f10
      simp only [drew_size] at b10
      have qf10 := f10.cap
      have s10 := b10.size
      simp only [drew_size] at s10
      replace hw := hw.trans (b10.mono hw.size)
      replace f1 := f1.u b10
      replace f2 := f2.u b10
      refine wl_fork2j (m := 415) (L := 2660) (C := 612) (n := 6) (k1 := 5) (k2 := 6) _ [0, 1, 0, 0, 8, 20, 0, 0, 128, 352, 546, 2047, 4095] [0, 1, 0, 0, 8, 28, 0, 0, 128, 508, 1023, 2047, 4095] [5, 6, 9, 10, 11, 12] [6, 5, 9, 10, 11, 12] [9, 10, 11, 12] [(.c, 6), (.c, 9), (.p, 10), (.l, 11), (.p, 12)] [(.c, 5), (.c, 9), (.p, 10), (.l, 11), (.p, 12)] [(.c, 9), (.p, 10), (.l, 11), (.p, 12)] (by kernel_rfl) (by kernel_rfl) (by kernel_rfl) (by kernel_rfl) (by kernel_rfl) hj (fun hj => ?_) (fun hj => ?_) <;> dsimp only [inOrder, nthOp]
      · refine wl_appDH0 rfl f10 rfl (hB.u hw) rfl (by omega) (by omega) ?_
        rintro A13 c13 w13 f13 b13
        have qf13 := f13.cap
        have s13 := b13.size
        replace hw := hw.trans (b13.mono hw.size)
        replace f2 := f2.u b13
        replace f1 := f1.u b13
        replace f10 := f10.u b13
        refine wl_litDH [] (by rfl) rfl rfl (by rfl) (by rfl) (by rfl) ?_
        rintro A14 w14 f14 b14
        have qf14 := f14.cap
        have s14 := b14.size
        replace hw := hw.trans (b14.mono hw.size)
        replace f10 := f10.u b14
        replace f1 := f1.u b14
        replace f2 := f2.u b14
        replace f13 := f13.u b14
        exact wl_tof hj (Fr.le_of (by kernel_rfl) (by kernel_rfl) (by repeat' constructor)) ⟨_, _, _, _, _, _, _, rfl, f13, f14, by omega, by omega, by omega, b10.trans ((b13.mono (by omega)).trans (b14.mono (by omega)))⟩
      · refine wl_litDH [] (by rfl) rfl rfl (by rfl) (by rfl) (by rfl) ?_
        rintro A14 w14 f14 b14
        have qf14 := f14.cap
        have s14 := b14.size
        replace hw := hw.trans (b14.mono hw.size)
        replace f2 := f2.u b14
        replace f1 := f1.u b14
        replace f10 := f10.u b14
        refine wl_appDH0 rfl f10 rfl (hB.u hw) rfl (by omega) (by omega) ?_
        rintro A13 c13 w13 f13 b13
        have qf13 := f13.cap
        have s13 := b13.size
        replace hw := hw.trans (b13.mono hw.size)
        replace f10 := f10.u b13
        replace f1 := f1.u b13
        replace f2 := f2.u b13
        replace f14 := f14.u b13
        exact wl_tof hj (Fr.le_of (by kernel_rfl) (by kernel_rfl) (by repeat' constructor)) ⟨_, _, _, _, _, _, _, rfl, f13, f14, by omega, by omega, by omega, b10.trans ((b14.mono (by omega)).trans (b13.mono (by omega)))⟩
    · refine wl_litDH [] (by rfl) rfl rfl (by rfl) (by rfl) (by rfl) ?_
      rintro A14 w14 f14 b14
      simp only [drew_size] at f14
      simp only [drew_size] at b14
      have qf14 := f14.cap
      have s14 := b14.size
      simp only [drew_size] at s14
      replace hw := hw.trans (b14.mono hw.size)
      replace f1 := f1.u b14
      replace f2 := f2.u b14
      refine wl_litDH [] (by rfl) rfl rfl (by rfl) (by rfl) (by rfl) ?_
      rintro A10 w10 f10 b10
      have qf10 := f10.cap
      have s10 := b10.size
      replace hw := hw.trans (b10.mono hw.size)
      replace f2 := f2.u b10
      replace f1 := f1.u b10
      replace f14 := f14.u b10
      refine wl_appDH0 rfl f10 rfl (hB.u hw) rfl (by omega) (by omega) ?_
      rintro A13 c13 w13 f13 b13
      have qf13 := f13.cap
      have s13 := b13.size
      replace hw := hw.trans (b13.mono hw.size)
      replace f14 := f14.u b13
      replace f1 := f1.u b13
      replace f2 := f2.u b13
      replace f10 := f10.u b13
      exact wl_tof hj (Fr.le_of (by kernel_rfl) (by kernel_rfl) (by repeat' constructor)) ⟨_, _, _, _, _, _, _, rfl, f13, f14, by omega, by omega, by omega, b14.trans ((b10.mono (by omega)).trans (b13.mono (by omega)))⟩

theorem C_refFrom' {A B : Option Addr} {a b : List Dg} {k m c d : Nat} {r : Pl × Nat} (w : World) (hra : RD w A a) (hrb : RD w B b) (hr : pFrom a b = r) (hk : k = a.length) (hm : m = b.length) (hla : a.length ≤ 2000000) (hlb : b.length ≤ 2000000) (hc : a.length ≤ c) (hd : b.length ≤ d) :
    CallsR Try.prog 24 [.slice A k c, .slice B m d] w fun v w' => ∃ u, v = .tuple #[u, .int .i64 r.2] ∧ PlO w' w.heap.size r.1 u ∧ Below w.heap.size w w' := by
  subst hr
  exact C_refFrom c d hk hm w hra hrb hla hlb hc hd

def lim4 (p : Pl) : Prop := p.undo.length ≤ 400000 ∧ p.doo.length ≤ 400000
theorem C_refThen {p q : Pl} {v u : Value} {C : Option Addr} {old : List Dg} {k e : Nat} {r : Pl × Nat} (w : World) (hp : PlV w p v) (hq : PlV w q u) (hC : RD w C old) (hr : pThen p q old = r) (hk : k = old.length) (hlp : lim4 p) (hlq : lim4 q) (hle : old.length ≤ e) (hlo : old.length ≤ 400000) :
    CallsR Try.prog 27 [v, u, .slice C k e] w fun v w' => ∃ u, v = .tuple #[u, .int .i64 r.2] ∧ PlO w' w.heap.size r.1 u ∧ Below w.heap.size w w' := by
  subst hr; subst hk
  obtain ⟨A, c, B, d, rfl, hA, hB, hc, hd⟩ := hp
  obtain ⟨A', c', B', d', rfl, hA', hB', hc', hd'⟩ := hq
  obtain ⟨kp, L, M⟩ := p
  obtain ⟨kq, L', M'⟩ := q
  obtain ⟨hl1, hl2⟩ := hlp
  obtain ⟨hl3, hl4⟩ := hlq
  simp only at *
  refine callsR Try.func27 rfl rfl (by kernel_rfl) rfl ?_
  have hw := Below.refl w.heap.size w
  have n1 := pApply_len ⟨kp, L, M⟩ old
  obtain ⟨⟨L1, e1⟩, a1⟩ : ∃ x, pApply ⟨kp, L, M⟩ old = x := ⟨_, rfl⟩
  have n2 := pApply_len ⟨kq, L', M'⟩ L1
  obtain ⟨⟨L2, e2⟩, a2⟩ : ∃ x, pApply ⟨kq, L', M'⟩ L1 = x := ⟨_, rfl⟩
  rw [a1] at n1
  rw [a2] at n2
  simp only at n1 n2
  have et : pThen ⟨kp, L, M⟩ ⟨kq, L', M'⟩ old = if e1 ≠ 0 then (pl0, e1) else if e2 ≠ 0 then (pl0, e2) else pFrom old L2 := by
    unfold pThen
    rw [a1]
    simp only
    rw [a2]
  rw [et]
  refine rk_seq ?_
  refine rk_region ?_
  refine wl_boxg [_, _, _] rfl (by rfl) ?_
  rintro g3 w3 f3 b3 i3 i3_1
  have s3 := b3.size
  replace hw := hw.trans (b3.mono hw.size)
  refine wl_boxg [_, _, _] rfl (by rfl) ?_
  rintro g4 w4 f4 b4 i4 i4_1
  have s4 := b4.size
  replace hw := hw.trans (b4.mono hw.size)
  replace f3 := f3.u b4
  refine wl_allocg [_, _, _] Try.zeroValue25 (by rfl) ?_
  rintro g6 w6 f6 b6 i6 i6_1
  have s6 := b6.size
  replace hw := hw.trans (b6.mono hw.size)
  replace f3 := f3.u b6
  replace f4 := f4.u b6
  refine wl_p (fun _ => o_assign rfl) ?_
  refine wl_nil ?_
  refine rk_seq ?_
  refine rk_region ?_
  refine wl_r (o_loadag Try.isAgg25 Try.sizeOf25 rfl f3 (by rfl)) ?_
  refine wl_p (fun _ => o_move rfl) ?_
  refine wl_call rfl (C_refApply _ (PlV.mk_ (hA.u hw) (hB.u hw) rfl rfl (by omega) (by omega)) (hC.u hw) a1 rfl ⟨by simp only; omega, by simp only; omega⟩ (by omega) (by omega)) ?_
  rintro v14 w14 ⟨A14, ⟨c14, ⟨rfl, ⟨f14, b14⟩⟩⟩⟩
  dsimp only at f14
  dsimp only
  replace f14 := f14.h_
  have qf14 := f14.cap
  have s14 := b14.size
  replace hw := hw.trans (b14.mono hw.size)
  replace f4 := f4.u b14
  replace f3 := f3.u b14
  replace f6 := f6.u b14
  refine wl_p (fun _ => o_move rfl) ?_
  refine wl_p (fun _ => o_ext20 rfl) ?_
  refine wl_p (fun _ => o_ext21 rfl) ?_
  refine wl_p (fun _ => o_assign rfl) ?_
  refine wl_p (fun _ => o_assign rfl) ?_
  refine wl_nil ?_
  refine rk_seq ?_
  refine rk_seq ?_
  refine rk_region ?_
  refine wl_p (fun _ => o_move rfl) ?_
  refine wl_p (fun _ => o_ne rfl rfl) ?_
  refine wl_nil ?_
  refine rk_if rfl (fun h18 => ?_) (fun h18 => ?_)
  · rw [if_pos (by omega)]
    refine rk_seq ?_
    refine rk_region ?_
    refine wl_p (fun _ => (o_buildg [_, _, _] Try.underlying25 Try.zeroValue25 (by rfl) (by rfl) rfl (by rfl) (by rfl) (fun _ => by kernel_rfl))) ?_
    refine wl_p (fun _ => o_move rfl) ?_
    refine wl_storega Try.sizeOf25 rfl rfl (by rfl) (by decide) f6 (by rfl) ?_
    rintro w_1 f g e_1
    have s := g.size
    replace hw := hw.trans (below_of_grownBy g.g hw.size (by omega))
    clear f6
    replace f3 := f3.k g.g (ap_some (by omega))
    replace f4 := f4.k g.g (ap_some (by omega))
    replace f14 := f14.k g.g (ap_some (by omega))
    refine wl_p (fun _ => o_assign rfl) ?_
    refine wl_nil ?_
    refine ret_cell_tmp rfl rfl rfl Try.isAgg25 Try.sizeOf25 f rfl ?_
    exact ⟨_, rfl, PlO.zero _ _, hw⟩
  rw [if_neg (by omega)]
  refine rk_skip ?_
  refine rk_seq ?_
  refine rk_region ?_
  refine wl_r (o_loadag Try.isAgg25 Try.sizeOf25 rfl f4 (by rfl)) ?_
  refine wl_p (fun _ => o_move rfl) ?_
  refine wl_call rfl (C_refApply _ (PlV.mk_ (hA'.u hw) (hB'.u hw) rfl rfl (by omega) (by omega)) f14.to_RD a2 rfl ⟨by simp only; omega, by simp only; omega⟩ (by omega) (by omega)) ?_
  rintro v24 w24 ⟨A24, ⟨c24, ⟨rfl, ⟨f24, b24⟩⟩⟩⟩
  dsimp only at f24
  dsimp only
  replace f24 := f24.h_
  have qf24 := f24.cap
  have s24 := b24.size
  replace hw := hw.trans (b24.mono hw.size)
  replace f6 := f6.u b24
  replace f3 := f3.u b24
  replace f4 := f4.u b24
  replace f14 := f14.u b24
  refine wl_p (fun _ => o_move rfl) ?_
  refine wl_p (fun _ => o_ext20 rfl) ?_
  refine wl_p (fun _ => o_ext21 rfl) ?_
  refine wl_p (fun _ => o_assign rfl) ?_
  refine wl_p (fun _ => o_assign rfl) ?_
  refine wl_nil ?_
  refine rk_seq ?_
  refine rk_seq ?_
  refine rk_region ?_
  refine wl_p (fun _ => o_move rfl) ?_
  refine wl_p (fun _ => o_ne rfl rfl) ?_
  refine wl_nil ?_
  refine rk_if rfl (fun h28 => ?_) (fun h28 => ?_)
  · rw [if_pos (by omega)]
    refine rk_seq ?_
    refine rk_region ?_
    refine wl_p (fun _ => (o_buildg [_, _, _] Try.underlying25 Try.zeroValue25 (by rfl) (by rfl) rfl (by rfl) (by rfl) (fun _ => by kernel_rfl))) ?_
    refine wl_p (fun _ => o_move rfl) ?_
    refine wl_storega Try.sizeOf25 rfl rfl (by rfl) (by decide) f6 (by rfl) ?_
    rintro w_1 f g e_1
    have s := g.size
    replace hw := hw.trans (below_of_grownBy g.g hw.size (by omega))
    replace f14 := f14.k g.g (ap_some (by omega))
    replace f4 := f4.k g.g (ap_some (by omega))
    replace f3 := f3.k g.g (ap_some (by omega))
    clear f6
    replace f24 := f24.k g.g (ap_some (by omega))
    refine wl_p (fun _ => o_assign rfl) ?_
    refine wl_nil ?_
    refine ret_cell_tmp rfl rfl rfl Try.isAgg25 Try.sizeOf25 f rfl ?_
    exact ⟨_, rfl, PlO.zero _ _, hw⟩
  rw [if_neg (by omega)]
  refine rk_skip ?_
  refine rk_seq ?_
  refine rk_region ?_
  refine wl_p (fun _ => o_move rfl) ?_
  refine wl_p (fun _ => o_move rfl) ?_
  refine wl_call rfl (C_refFrom' _ (hC.u hw) f24.to_RD (by rfl) rfl rfl (by omega) (by omega) (by omega) (by omega)) ?_
  rintro v33 w33 ⟨u33, ⟨rfl, ⟨⟨A33, ⟨c33, ⟨A33_1, ⟨c33_1, ⟨rfl, ⟨f33, f33_1⟩⟩⟩⟩⟩⟩, b33⟩⟩⟩
  replace f33 := f33.h_
  have qf33 := f33.cap
  replace f33_1 := f33_1.h_
  have qf33_1 := f33_1.cap
  have s33 := b33.size
  replace hw := hw.trans (b33.mono hw.size)
  replace f14 := f14.u b33
  replace f4 := f4.u b33
  replace f3 := f3.u b33
  replace f6 := f6.u b33
  replace f24 := f24.u b33
  refine wl_p (fun _ => o_ext20 rfl) ?_
  refine wl_p (fun _ => o_ext21 rfl) ?_
  refine wl_storega Try.sizeOf25 rfl rfl (by rfl) (oneCell_of (by rfl)) f6 (by rfl) ?_
  rintro w_1 f g e_1
  have s := g.size
  replace hw := hw.trans (below_of_grownBy g.g hw.size (by omega))
  replace f24 := f24.k g.g (ap_some (by omega))
  clear f6
  replace f3 := f3.k g.g (ap_some (by omega))
  replace f4 := f4.k g.g (ap_some (by omega))
  replace f14 := f14.k g.g (ap_some (by omega))
  replace f33_1 := f33_1.k g.g (ap_some (by omega))
  replace f33 := f33.k g.g (ap_some (by omega))
  refine wl_p (fun _ => o_assign rfl) ?_
  refine wl_nil ?_
  refine ret_cell_tmp rfl rfl rfl Try.isAgg25 Try.sizeOf25 f rfl ?_
  exact ⟨_, rfl, ⟨_, _, _, _, rfl, f33.to_OwnD.base (by omega), f33_1.to_OwnD.base (by omega)⟩, hw⟩
end Go.Proofs.Ytbncaabcddoicaa
