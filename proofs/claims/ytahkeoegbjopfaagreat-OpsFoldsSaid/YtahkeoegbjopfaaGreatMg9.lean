/-
  Walks of the document's answer for chapter 22: valid states, a state copied, a key's place, keys more and less.
-/
import Derived.Test.YtahkeoegbjopfaaGreatMg8
namespace Go.Proofs.YtahkeoegbjopfaaGreat
set_option maxRecDepth 100000
open Go.RowKit
theorem C_r22risingY {A : Option Addr} {L : List Ky} {n c : Nat} (w : World) (h : IncK L) (hA : RKs w A L) (hn : n = L.length) (hl : L.length ≤ 4000000) :
  CallsR Tryz.prog 168 [.slice A n c] w fun v w' => v = .bool true ∧ Below w.heap.size w w' := by
 have := C_r22rising (c := c) w hA hn hl
 rwa [decide_eq_true h] at this
theorem C_r22risingN {A : Option Addr} {L : List Ky} {n c : Nat} (w : World) (h : ¬IncK L) (hA : RKs w A L) (hn : n = L.length) (hl : L.length ≤ 4000000) :
  CallsR Tryz.prog 168 [.slice A n c] w fun v w' => v = .bool false ∧ Below w.heap.size w w' := by
 have := C_r22rising (c := c) w hA hn hl
 rwa [decide_eq_false h] at this
set_option maxRecDepth 20000 in
set_option maxHeartbeats 2000000 in
theorem K_r22CheckState {A B C : Option Addr} {I : List (By × By)} {X Y : List Ky} {n c m d q e : Nat} (w : World) (hA : RI w A I) (hB : RKs w B X) (hC : RKs w C Y) (hn : n = I.length) (hm : m = X.length) (hq : q = Y.length) (hl : I.length ≤ 400000) (hl2 : X.length ≤ 400000) (hl3 : Y.length ≤ 400000) (hL : LtI I) :
  CallsR Tryz.prog 131 [.agg #[.slice A n c, .slice B m d, .slice C q e]] w fun v w' => v = .int .i64 (if OkSt I X Y then 0 else 2) ∧ Below w.heap.size w w' := by
 subst hn; subst hm; subst hq
 refine callsR Tryz.func131 rfl rfl (by kernel_rfl) rfl ?_
 have hw := Below.refl w.heap.size w
 by_cases h1 : 1024 < I.length
 ·rw [if_neg (fun h => by have := h.1.1; omega)]
  refine rk_seq ?_
  refine rk_region ?_
  refine wl_boxg [_, _, _] rfl (by rfl) ?_
  rintro g1 w1 f1 b1 i1 i1_1
  have s1 := b1.size
  replace hw := hw.trans (b1.mono hw.size)
  refine wl_p (fun _ => o_assign rfl) ?_
  refine wl_nil ?_
  refine rk_seq ?_
  refine rk_seq ?_
  refine rk_region ?_
  refine wl_p (fun _ => o_faddr (s := 31) (i := 0) (off := 0) Tryz.underlying31 rfl Tryz.sizeOf28 rfl rfl rfl) ?_
  refine wl_r (o_loadbg Tryz.isAgg28 rfl f1 (by rfl)) ?_
  refine wl_p (fun _ => o_len (t := 28) Tryz.underlying28 rfl) ?_
  refine wl_p (fun _ => o_gt rfl rfl) ?_
  refine wl_p (fun _ => o_move rfl) ?_
  refine wl_know 9 true rfl (decide_eq_true (by omega)) ?_
  refine wl_off ?_
  refine wl_off ?_
  refine wl_off ?_
  refine wl_off ?_
  refine wl_p (fun _ => o_pick_t rfl rfl) ?_
  refine wl_p (fun _ => o_move rfl) ?_
  refine wl_off ?_
  refine wl_off ?_
  refine wl_off ?_
  refine wl_off ?_
  refine wl_p (fun _ => o_pick_t rfl rfl) ?_
  refine wl_p (fun _ => o_move rfl) ?_
  refine wl_off ?_
  refine wl_off ?_
  refine wl_off ?_
  refine wl_off ?_
  refine wl_p (fun _ => o_pick_t rfl rfl) ?_
  refine wl_p (fun _ => o_move rfl) ?_
  refine wl_off ?_
  refine wl_off ?_
  refine wl_off ?_
  refine wl_off ?_
  refine wl_p (fun _ => o_pick_t rfl rfl) ?_
  refine wl_p (fun _ => o_move rfl) ?_
  refine wl_off ?_
  refine wl_off ?_
  refine wl_off ?_
  refine wl_off ?_
  refine wl_p (fun _ => o_pick_t rfl rfl) ?_
  refine wl_nil ?_
  refine rk_true rfl ?_
  refine rk_seq ?_
  refine rk_region ?_
  refine wl_p (fun _ => o_assign rfl) ?_
  refine wl_nil ?_
  refine ret1 rfl rfl ?_
  exact ⟨rfl, hw⟩
 by_cases h2 : 16 < X.length
 ·rw [if_neg (fun h => by have := h.1.2; omega)]
  refine rk_seq ?_
  refine rk_region ?_
  refine wl_boxg [_, _, _] rfl (by rfl) ?_
  rintro g1 w1 f1 b1 i1 i1_1
  have s1 := b1.size
  replace hw := hw.trans (b1.mono hw.size)
  refine wl_p (fun _ => o_assign rfl) ?_
  refine wl_nil ?_
  refine rk_seq ?_
  refine rk_seq ?_
  refine rk_region ?_
  refine wl_p (fun _ => o_faddr (s := 31) (i := 0) (off := 0) Tryz.underlying31 rfl Tryz.sizeOf28 rfl rfl rfl) ?_
  refine wl_r (o_loadbg Tryz.isAgg28 rfl f1 (by rfl)) ?_
  refine wl_p (fun _ => o_len (t := 28) Tryz.underlying28 rfl) ?_
  refine wl_p (fun _ => o_gt rfl rfl) ?_
  refine wl_p (fun _ => o_move rfl) ?_
  refine wl_know 9 false rfl (decide_eq_false (by omega)) ?_
  refine wl_p (fun _ => o_faddr (s := 31) (i := 1) (off := 1) Tryz.underlying31 rfl Tryz.sizeOf29 rfl rfl rfl) ?_
  refine wl_r (o_loadbg Tryz.isAgg29 rfl f1 (by rfl)) ?_
  refine wl_p (fun _ => o_len (t := 29) Tryz.underlying29 rfl) ?_
  refine wl_p (fun _ => o_gt rfl rfl) ?_
  refine wl_p (fun _ => o_pick_f rfl rfl) ?_
  refine wl_p (fun _ => o_move rfl) ?_
  refine wl_know 15 true rfl (decide_eq_true (by omega)) ?_
  refine wl_off ?_
  refine wl_off ?_
  refine wl_off ?_
  refine wl_off ?_
  refine wl_p (fun _ => o_pick_t rfl rfl) ?_
  refine wl_p (fun _ => o_move rfl) ?_
  refine wl_off ?_
  refine wl_off ?_
  refine wl_off ?_
  refine wl_off ?_
  refine wl_p (fun _ => o_pick_t rfl rfl) ?_
  refine wl_p (fun _ => o_move rfl) ?_
  refine wl_off ?_
  refine wl_off ?_
  refine wl_off ?_
  refine wl_off ?_
  refine wl_p (fun _ => o_pick_t rfl rfl) ?_
  refine wl_p (fun _ => o_move rfl) ?_
  refine wl_off ?_
  refine wl_off ?_
  refine wl_off ?_
  refine wl_off ?_
  refine wl_p (fun _ => o_pick_t rfl rfl) ?_
  refine wl_nil ?_
  refine rk_true rfl ?_
  refine rk_seq ?_
  refine rk_region ?_
  refine wl_p (fun _ => o_assign rfl) ?_
  refine wl_nil ?_
  refine ret1 rfl rfl ?_
  exact ⟨rfl, hw⟩
 by_cases h3 : Y.length < 1
 ·rw [if_neg (fun h => by have := h.2.1.1; omega)]
  refine rk_seq ?_
  refine rk_region ?_
  refine wl_boxg [_, _, _] rfl (by rfl) ?_
  rintro g1 w1 f1 b1 i1 i1_1
  have s1 := b1.size
  replace hw := hw.trans (b1.mono hw.size)
  refine wl_p (fun _ => o_assign rfl) ?_
  refine wl_nil ?_
  refine rk_seq ?_
  refine rk_seq ?_
  refine rk_region ?_
  refine wl_p (fun _ => o_faddr (s := 31) (i := 0) (off := 0) Tryz.underlying31 rfl Tryz.sizeOf28 rfl rfl rfl) ?_
  refine wl_r (o_loadbg Tryz.isAgg28 rfl f1 (by rfl)) ?_
  refine wl_p (fun _ => o_len (t := 28) Tryz.underlying28 rfl) ?_
  refine wl_p (fun _ => o_gt rfl rfl) ?_
  refine wl_p (fun _ => o_move rfl) ?_
  refine wl_know 9 false rfl (decide_eq_false (by omega)) ?_
  refine wl_p (fun _ => o_faddr (s := 31) (i := 1) (off := 1) Tryz.underlying31 rfl Tryz.sizeOf29 rfl rfl rfl) ?_
  refine wl_r (o_loadbg Tryz.isAgg29 rfl f1 (by rfl)) ?_
  refine wl_p (fun _ => o_len (t := 29) Tryz.underlying29 rfl) ?_
  refine wl_p (fun _ => o_gt rfl rfl) ?_
  refine wl_p (fun _ => o_pick_f rfl rfl) ?_
  refine wl_p (fun _ => o_move rfl) ?_
  refine wl_know 15 false rfl (decide_eq_false (by omega)) ?_
  refine wl_p (fun _ => o_faddr (s := 31) (i := 2) (off := 2) Tryz.underlying31 rfl Tryz.sizeOf29 rfl rfl rfl) ?_
  refine wl_r (o_loadbg Tryz.isAgg29 rfl f1 (by rfl)) ?_
  refine wl_p (fun _ => o_len (t := 29) Tryz.underlying29 rfl) ?_
  refine wl_p (fun _ => o_lt rfl rfl) ?_
  refine wl_p (fun _ => o_pick_f rfl rfl) ?_
  refine wl_p (fun _ => o_move rfl) ?_
  refine wl_know 21 true rfl (decide_eq_true (by omega)) ?_
  refine wl_off ?_
  refine wl_off ?_
  refine wl_off ?_
  refine wl_off ?_
  refine wl_p (fun _ => o_pick_t rfl rfl) ?_
  refine wl_p (fun _ => o_move rfl) ?_
  refine wl_off ?_
  refine wl_off ?_
  refine wl_off ?_
  refine wl_off ?_
  refine wl_p (fun _ => o_pick_t rfl rfl) ?_
  refine wl_p (fun _ => o_move rfl) ?_
  refine wl_off ?_
  refine wl_off ?_
  refine wl_off ?_
  refine wl_off ?_
  refine wl_p (fun _ => o_pick_t rfl rfl) ?_
  refine wl_nil ?_
  refine rk_true rfl ?_
  refine rk_seq ?_
  refine rk_region ?_
  refine wl_p (fun _ => o_assign rfl) ?_
  refine wl_nil ?_
  refine ret1 rfl rfl ?_
  exact ⟨rfl, hw⟩
 by_cases h4 : 16 < Y.length
 ·rw [if_neg (fun h => by have := h.2.1.2; omega)]
  refine rk_seq ?_
  refine rk_region ?_
  refine wl_boxg [_, _, _] rfl (by rfl) ?_
  rintro g1 w1 f1 b1 i1 i1_1
  have s1 := b1.size
  replace hw := hw.trans (b1.mono hw.size)
  refine wl_p (fun _ => o_assign rfl) ?_
  refine wl_nil ?_
  refine rk_seq ?_
  refine rk_seq ?_
  refine rk_region ?_
  refine wl_p (fun _ => o_faddr (s := 31) (i := 0) (off := 0) Tryz.underlying31 rfl Tryz.sizeOf28 rfl rfl rfl) ?_
  refine wl_r (o_loadbg Tryz.isAgg28 rfl f1 (by rfl)) ?_
  refine wl_p (fun _ => o_len (t := 28) Tryz.underlying28 rfl) ?_
  refine wl_p (fun _ => o_gt rfl rfl) ?_
  refine wl_p (fun _ => o_move rfl) ?_
  refine wl_know 9 false rfl (decide_eq_false (by omega)) ?_
  refine wl_p (fun _ => o_faddr (s := 31) (i := 1) (off := 1) Tryz.underlying31 rfl Tryz.sizeOf29 rfl rfl rfl) ?_
  refine wl_r (o_loadbg Tryz.isAgg29 rfl f1 (by rfl)) ?_
  refine wl_p (fun _ => o_len (t := 29) Tryz.underlying29 rfl) ?_
  refine wl_p (fun _ => o_gt rfl rfl) ?_
  refine wl_p (fun _ => o_pick_f rfl rfl) ?_
  refine wl_p (fun _ => o_move rfl) ?_
  refine wl_know 15 false rfl (decide_eq_false (by omega)) ?_
  refine wl_p (fun _ => o_faddr (s := 31) (i := 2) (off := 2) Tryz.underlying31 rfl Tryz.sizeOf29 rfl rfl rfl) ?_
  refine wl_r (o_loadbg Tryz.isAgg29 rfl f1 (by rfl)) ?_
  refine wl_p (fun _ => o_len (t := 29) Tryz.underlying29 rfl) ?_
  refine wl_p (fun _ => o_lt rfl rfl) ?_
  refine wl_p (fun _ => o_pick_f rfl rfl) ?_
  refine wl_p (fun _ => o_move rfl) ?_
  refine wl_know 21 false rfl (decide_eq_false (by omega)) ?_
  refine wl_p (fun _ => o_faddr (s := 31) (i := 2) (off := 2) Tryz.underlying31 rfl Tryz.sizeOf29 rfl rfl rfl) ?_
  refine wl_r (o_loadbg Tryz.isAgg29 rfl f1 (by rfl)) ?_
  refine wl_p (fun _ => o_len (t := 29) Tryz.underlying29 rfl) ?_
  refine wl_p (fun _ => o_gt rfl rfl) ?_
  refine wl_p (fun _ => o_pick_f rfl rfl) ?_
  refine wl_p (fun _ => o_move rfl) ?_
  refine wl_know 27 true rfl (decide_eq_true (by omega)) ?_
  refine wl_off ?_
  refine wl_off ?_
  refine wl_off ?_
  refine wl_off ?_
  refine wl_p (fun _ => o_pick_t rfl rfl) ?_
  refine wl_p (fun _ => o_move rfl) ?_
  refine wl_off ?_
  refine wl_off ?_
  refine wl_off ?_
  refine wl_off ?_
  refine wl_p (fun _ => o_pick_t rfl rfl) ?_
  refine wl_nil ?_
  refine rk_true rfl ?_
  refine rk_seq ?_
  refine rk_region ?_
  refine wl_p (fun _ => o_assign rfl) ?_
  refine wl_nil ?_
  refine ret1 rfl rfl ?_
  exact ⟨rfl, hw⟩
 by_cases h5 : IncK X
 rotate_left
 ·rw [if_neg (fun h => h5 h.2.2.2.1)]
  refine rk_seq ?_
  refine rk_region ?_
  refine wl_boxg [_, _, _] rfl (by rfl) ?_
  rintro g1 w1 f1 b1 i1 i1_1
  have s1 := b1.size
  replace hw := hw.trans (b1.mono hw.size)
  refine wl_p (fun _ => o_assign rfl) ?_
  refine wl_nil ?_
  refine rk_seq ?_
  refine rk_seq ?_
  refine rk_region ?_
  refine wl_p (fun _ => o_faddr (s := 31) (i := 0) (off := 0) Tryz.underlying31 rfl Tryz.sizeOf28 rfl rfl rfl) ?_
  refine wl_r (o_loadbg Tryz.isAgg28 rfl f1 (by rfl)) ?_
  refine wl_p (fun _ => o_len (t := 28) Tryz.underlying28 rfl) ?_
  refine wl_p (fun _ => o_gt rfl rfl) ?_
  refine wl_p (fun _ => o_move rfl) ?_
  refine wl_know 9 false rfl (decide_eq_false (by omega)) ?_
  refine wl_p (fun _ => o_faddr (s := 31) (i := 1) (off := 1) Tryz.underlying31 rfl Tryz.sizeOf29 rfl rfl rfl) ?_
  refine wl_r (o_loadbg Tryz.isAgg29 rfl f1 (by rfl)) ?_
  refine wl_p (fun _ => o_len (t := 29) Tryz.underlying29 rfl) ?_
  refine wl_p (fun _ => o_gt rfl rfl) ?_
  refine wl_p (fun _ => o_pick_f rfl rfl) ?_
  refine wl_p (fun _ => o_move rfl) ?_
  refine wl_know 15 false rfl (decide_eq_false (by omega)) ?_
  refine wl_p (fun _ => o_faddr (s := 31) (i := 2) (off := 2) Tryz.underlying31 rfl Tryz.sizeOf29 rfl rfl rfl) ?_
  refine wl_r (o_loadbg Tryz.isAgg29 rfl f1 (by rfl)) ?_
  refine wl_p (fun _ => o_len (t := 29) Tryz.underlying29 rfl) ?_
  refine wl_p (fun _ => o_lt rfl rfl) ?_
  refine wl_p (fun _ => o_pick_f rfl rfl) ?_
  refine wl_p (fun _ => o_move rfl) ?_
  refine wl_know 21 false rfl (decide_eq_false (by omega)) ?_
  refine wl_p (fun _ => o_faddr (s := 31) (i := 2) (off := 2) Tryz.underlying31 rfl Tryz.sizeOf29 rfl rfl rfl) ?_
  refine wl_r (o_loadbg Tryz.isAgg29 rfl f1 (by rfl)) ?_
  refine wl_p (fun _ => o_len (t := 29) Tryz.underlying29 rfl) ?_
  refine wl_p (fun _ => o_gt rfl rfl) ?_
  refine wl_p (fun _ => o_pick_f rfl rfl) ?_
  refine wl_p (fun _ => o_move rfl) ?_
  refine wl_know 27 false rfl (decide_eq_false (by omega)) ?_
  refine wl_p (fun _ => o_faddr (s := 31) (i := 1) (off := 1) Tryz.underlying31 rfl Tryz.sizeOf29 rfl rfl rfl) ?_
  refine wl_r (o_loadbg Tryz.isAgg29 rfl f1 (by rfl)) ?_
  refine wl_call rfl (C_r22risingN _ (by omega) (hB.u hw) rfl (by omega)) ?_
  rintro v30 w30 ⟨rfl, b30⟩
  have s30 := b30.size
  replace hw := hw.trans (b30.mono hw.size)
  replace f1 := f1.u b30
  refine wl_p (fun _ => o_not rfl) ?_
  refine wl_p (fun _ => o_pick_f rfl rfl) ?_
  refine wl_p (fun _ => o_move rfl) ?_
  refine wl_off ?_
  refine wl_off ?_
  refine wl_off ?_
  refine wl_off ?_
  refine wl_p (fun _ => o_pick_t rfl rfl) ?_
  refine wl_nil ?_
  refine rk_true rfl ?_
  refine rk_seq ?_
  refine rk_region ?_
  refine wl_p (fun _ => o_assign rfl) ?_
  refine wl_nil ?_
  refine ret1 rfl rfl ?_
  exact ⟨rfl, hw⟩
 by_cases h6 : IncK Y
 rotate_left
 ·rw [if_neg (fun h => h6 h.2.2.2.2)]
  refine rk_seq ?_
  refine rk_region ?_
  refine wl_boxg [_, _, _] rfl (by rfl) ?_
  rintro g1 w1 f1 b1 i1 i1_1
  have s1 := b1.size
  replace hw := hw.trans (b1.mono hw.size)
  refine wl_p (fun _ => o_assign rfl) ?_
  refine wl_nil ?_
  refine rk_seq ?_
  refine rk_seq ?_
  refine rk_region ?_
  refine wl_p (fun _ => o_faddr (s := 31) (i := 0) (off := 0) Tryz.underlying31 rfl Tryz.sizeOf28 rfl rfl rfl) ?_
  refine wl_r (o_loadbg Tryz.isAgg28 rfl f1 (by rfl)) ?_
  refine wl_p (fun _ => o_len (t := 28) Tryz.underlying28 rfl) ?_
  refine wl_p (fun _ => o_gt rfl rfl) ?_
  refine wl_p (fun _ => o_move rfl) ?_
  refine wl_know 9 false rfl (decide_eq_false (by omega)) ?_
  refine wl_p (fun _ => o_faddr (s := 31) (i := 1) (off := 1) Tryz.underlying31 rfl Tryz.sizeOf29 rfl rfl rfl) ?_
  refine wl_r (o_loadbg Tryz.isAgg29 rfl f1 (by rfl)) ?_
  refine wl_p (fun _ => o_len (t := 29) Tryz.underlying29 rfl) ?_
  refine wl_p (fun _ => o_gt rfl rfl) ?_
  refine wl_p (fun _ => o_pick_f rfl rfl) ?_
  refine wl_p (fun _ => o_move rfl) ?_
  refine wl_know 15 false rfl (decide_eq_false (by omega)) ?_
  refine wl_p (fun _ => o_faddr (s := 31) (i := 2) (off := 2) Tryz.underlying31 rfl Tryz.sizeOf29 rfl rfl rfl) ?_
  refine wl_r (o_loadbg Tryz.isAgg29 rfl f1 (by rfl)) ?_
  refine wl_p (fun _ => o_len (t := 29) Tryz.underlying29 rfl) ?_
  refine wl_p (fun _ => o_lt rfl rfl) ?_
  refine wl_p (fun _ => o_pick_f rfl rfl) ?_
  refine wl_p (fun _ => o_move rfl) ?_
  refine wl_know 21 false rfl (decide_eq_false (by omega)) ?_
  refine wl_p (fun _ => o_faddr (s := 31) (i := 2) (off := 2) Tryz.underlying31 rfl Tryz.sizeOf29 rfl rfl rfl) ?_
  refine wl_r (o_loadbg Tryz.isAgg29 rfl f1 (by rfl)) ?_
  refine wl_p (fun _ => o_len (t := 29) Tryz.underlying29 rfl) ?_
  refine wl_p (fun _ => o_gt rfl rfl) ?_
  refine wl_p (fun _ => o_pick_f rfl rfl) ?_
  refine wl_p (fun _ => o_move rfl) ?_
  refine wl_know 27 false rfl (decide_eq_false (by omega)) ?_
  refine wl_p (fun _ => o_faddr (s := 31) (i := 1) (off := 1) Tryz.underlying31 rfl Tryz.sizeOf29 rfl rfl rfl) ?_
  refine wl_r (o_loadbg Tryz.isAgg29 rfl f1 (by rfl)) ?_
  refine wl_call rfl (C_r22risingY _ (by omega) (hB.u hw) rfl (by omega)) ?_
  rintro v30 w30 ⟨rfl, b30⟩
  have s30 := b30.size
  replace hw := hw.trans (b30.mono hw.size)
  replace f1 := f1.u b30
  refine wl_p (fun _ => o_not rfl) ?_
  refine wl_p (fun _ => o_pick_f rfl rfl) ?_
  refine wl_p (fun _ => o_move rfl) ?_
  refine wl_p (fun _ => o_faddr (s := 31) (i := 2) (off := 2) Tryz.underlying31 rfl Tryz.sizeOf29 rfl rfl rfl) ?_
  refine wl_r (o_loadbg Tryz.isAgg29 rfl f1 (by rfl)) ?_
  refine wl_call rfl (C_r22risingN _ (by omega) (hC.u hw) rfl (by omega)) ?_
  rintro v36 w36 ⟨rfl, b36⟩
  have s36 := b36.size
  replace hw := hw.trans (b36.mono hw.size)
  replace f1 := f1.u b36
  refine wl_p (fun _ => o_not rfl) ?_
  refine wl_p (fun _ => o_pick_f rfl rfl) ?_
  refine wl_nil ?_
  refine rk_true rfl ?_
  refine rk_seq ?_
  refine rk_region ?_
  refine wl_p (fun _ => o_assign rfl) ?_
  refine wl_nil ?_
  refine ret1 rfl rfl ?_
  exact ⟨rfl, hw⟩
 refine rk_seq ?_
 refine rk_region ?_
 refine wl_boxg [_, _, _] rfl (by rfl) ?_
 rintro g1 w1 f1 b1 i1 i1_1
 have s1 := b1.size
 replace hw := hw.trans (b1.mono hw.size)
 refine wl_p (fun _ => o_assign rfl) ?_
 refine wl_nil ?_
 refine rk_seq ?_
 refine rk_seq ?_
 refine rk_region ?_
 refine wl_p (fun _ => o_faddr (s := 31) (i := 0) (off := 0) Tryz.underlying31 rfl Tryz.sizeOf28 rfl rfl rfl) ?_
 refine wl_r (o_loadbg Tryz.isAgg28 rfl f1 (by rfl)) ?_
 refine wl_p (fun _ => o_len (t := 28) Tryz.underlying28 rfl) ?_
 refine wl_p (fun _ => o_gt rfl rfl) ?_
 refine wl_p (fun _ => o_move rfl) ?_
 refine wl_know 9 false rfl (decide_eq_false (by omega)) ?_
 refine wl_p (fun _ => o_faddr (s := 31) (i := 1) (off := 1) Tryz.underlying31 rfl Tryz.sizeOf29 rfl rfl rfl) ?_
 refine wl_r (o_loadbg Tryz.isAgg29 rfl f1 (by rfl)) ?_
 refine wl_p (fun _ => o_len (t := 29) Tryz.underlying29 rfl) ?_
 refine wl_p (fun _ => o_gt rfl rfl) ?_
 refine wl_p (fun _ => o_pick_f rfl rfl) ?_
 refine wl_p (fun _ => o_move rfl) ?_
 refine wl_know 15 false rfl (decide_eq_false (by omega)) ?_
 refine wl_p (fun _ => o_faddr (s := 31) (i := 2) (off := 2) Tryz.underlying31 rfl Tryz.sizeOf29 rfl rfl rfl) ?_
 refine wl_r (o_loadbg Tryz.isAgg29 rfl f1 (by rfl)) ?_
 refine wl_p (fun _ => o_len (t := 29) Tryz.underlying29 rfl) ?_
 refine wl_p (fun _ => o_lt rfl rfl) ?_
 refine wl_p (fun _ => o_pick_f rfl rfl) ?_
 refine wl_p (fun _ => o_move rfl) ?_
 refine wl_know 21 false rfl (decide_eq_false (by omega)) ?_
 refine wl_p (fun _ => o_faddr (s := 31) (i := 2) (off := 2) Tryz.underlying31 rfl Tryz.sizeOf29 rfl rfl rfl) ?_
 refine wl_r (o_loadbg Tryz.isAgg29 rfl f1 (by rfl)) ?_
 refine wl_p (fun _ => o_len (t := 29) Tryz.underlying29 rfl) ?_
 refine wl_p (fun _ => o_gt rfl rfl) ?_
 refine wl_p (fun _ => o_pick_f rfl rfl) ?_
 refine wl_p (fun _ => o_move rfl) ?_
 refine wl_know 27 false rfl (decide_eq_false (by omega)) ?_
 refine wl_p (fun _ => o_faddr (s := 31) (i := 1) (off := 1) Tryz.underlying31 rfl Tryz.sizeOf29 rfl rfl rfl) ?_
 refine wl_r (o_loadbg Tryz.isAgg29 rfl f1 (by rfl)) ?_
 refine wl_call rfl (C_r22risingY _ (by omega) (hB.u hw) rfl (by omega)) ?_
 rintro v30 w30 ⟨rfl, b30⟩
 have s30 := b30.size
 replace hw := hw.trans (b30.mono hw.size)
 replace f1 := f1.u b30
 refine wl_p (fun _ => o_not rfl) ?_
 refine wl_p (fun _ => o_pick_f rfl rfl) ?_
 refine wl_p (fun _ => o_move rfl) ?_
 refine wl_p (fun _ => o_faddr (s := 31) (i := 2) (off := 2) Tryz.underlying31 rfl Tryz.sizeOf29 rfl rfl rfl) ?_
 refine wl_r (o_loadbg Tryz.isAgg29 rfl f1 (by rfl)) ?_
 refine wl_call rfl (C_r22risingY _ (by omega) (hC.u hw) rfl (by omega)) ?_
 rintro v36 w36 ⟨rfl, b36⟩
 have s36 := b36.size
 replace hw := hw.trans (b36.mono hw.size)
 replace f1 := f1.u b36
 refine wl_p (fun _ => o_not rfl) ?_
 refine wl_p (fun _ => o_pick_f rfl rfl) ?_
 refine wl_nil ?_
 refine rk_false rfl ?_
 refine rk_skip ?_
 refine rk_seq ?_
 refine rk_seq ?_
 refine rk_region ?_
 refine wl_p (fun _ => o_assign rfl) ?_
 refine wl_nil ?_
 refine rk_block ?_
 refine rk_joinf (fun fb fr w2 => fr = [] ++ fb.drop 1 ∧ OkI I ∧ Below w.heap.size w w2) ?_ (fun ks hj => ?_)
 rotate_left
 ·refine rk_loopf (fun fb k fr w2 => ∃ (i : Nat) (v : Int), fr = [(3, .int .i64 v)] ++ fb.drop 1 ∧ v = i ∧ i ≤ I.length ∧ k = I.length - i ∧ (∀ j (h : j < I.length), j < i → ((1 ≤ I[j].1.length ∧ I[j].1.length ≤ 16) ∧ I[j].2.length ≤ 32) ∧ (0 < j → cmpL I[j - 1].1 I[j].1 < 0)) ∧ Blk w2 g1 31 [.slice A I.length c, .slice B X.length d, .slice C Y.length e] ∧ Below w.heap.size w w2) (n := I.length) (Fr.le_of (by kernel_rfl) (by kernel_rfl) (by repeat' constructor)) ⟨0, _, rfl, rfl, by omega, rfl, fun j h h1 => absurd h1 (by omega), f1, hw⟩ ?_
  clear hw f1
  rintro k fr w2 ⟨i, v, rfl, rfl, hi, rfl, hok, f1, hw⟩
  have shw := hw.size
  first | refine rk_frame (by simp only [List.cons_append, List.nil_append, List.drop_succ_cons, List.drop_zero]; rfl) ?_ | refine wl_frame (by simp only [List.cons_append, List.nil_append, List.drop_succ_cons, List.drop_zero]; rfl) ?_
  by_cases hil : i < I.length
  ·obtain ⟨n1, n2⟩ := hL _ (List.getElem_mem hil)
   by_cases k1 : 1 ≤ I[i].1.length ∧ I[i].1.length ≤ 16
   ·by_cases k2 : I[i].2.length ≤ 32
    ·by_cases k3 : 0 < i
     ·have hi1 : i - 1 < I.length := by omega
      obtain ⟨n3, n4⟩ := hL _ (List.getElem_mem hi1)
      refine rk_seq ?_
      refine rk_seq ?_
      refine rk_region ?_
      refine wl_p (fun _ => o_move rfl) ?_
      refine wl_p (fun _ => o_faddr (s := 31) (i := 0) (off := 0) Tryz.underlying31 rfl Tryz.sizeOf28 rfl rfl rfl) ?_
      refine wl_r (o_loadbg Tryz.isAgg28 rfl f1 (by rfl)) ?_
      refine wl_p (fun _ => o_len (t := 28) Tryz.underlying28 rfl) ?_
      refine wl_p (fun _ => o_lt rfl rfl) ?_
      refine wl_nil ?_
      refine rk_if rfl (fun h43 => ?_) (fun h43 => h43.elim (by omega))
      refine rk_skip ?_
      refine rk_seq ?_
      refine rk_block ?_
      refine rk_seq ?_
      refine rk_region ?_
      refine wl_p (fun _ => o_faddr (s := 31) (i := 0) (off := 0) Tryz.underlying31 rfl Tryz.sizeOf28 rfl rfl rfl) ?_
      refine wl_r (o_loadbg Tryz.isAgg28 rfl f1 (by rfl)) ?_
      refine wl_p (fun _ => o_move rfl) ?_
      refine wl_p (fun _ => (o_iaddrA (i) Tryz.underlying28 Tryz.sizeOf94 rfl rfl rfl (hA.some_ (by omega)) (by omega))) ?_
      refine wl_ldItem rfl hA hw (by omega) ?_
      rintro A150 c150 A250 c250 f50 f50_1 i50 i50_1
      refine wl_allocg [_, _] Tryz.zeroValue94 (by rfl) ?_
      rintro g4 w4 f4 b4 i4 i4_1
      have s4 := b4.size
      replace hw := hw.trans (b4.mono hw.size)
      replace f1 := f1.u b4
      refine wl_storega Tryz.sizeOf94 rfl rfl (by rfl) (oneCell_of (by rfl)) f4 (by rfl) ?_
      rintro w_1 f g e_1
      have s := g.size
      replace hw := hw.trans (below_of_grownBy g.g hw.size (by omega))
      replace f1 := f1.y g (by decide)
      clear f4
      refine wl_nil ?_
      refine rk_seq ?_
      refine rk_draw (id := 7) (none) [0, 1, 2, 4, 12, 16, 48, 80, 144, 272, 640, 1024, 3072, 5120, 8192, 24576, 8192, 73728, 172032, 270336, 532480, 8192, 2105344, 5251072, 8396800, 16786432, 33555456] [0, 1, 3, 7, 15, 31, 63, 127, 255, 511, 1023, 2047, 4095, 8191, 16383, 32767, 16383, 81919, 262143, 524287, 1048575, 16383, 2113535, 8388607, 16777215, 33554431, 67108863] 8388740 0 [(.p, 0), (.r, 1), (.l, 2), (.p, 3), (.p, 4), (.p, 5), (.r, 6), (.l, 7), (.p, 8), (.p, 9), (.p, 10), (.p, 11), (.p, 12), (.p, 13), (.p, 14), (.r, 15), (.p, 16), (.p, 17), (.p, 18), (.p, 19), (.r, 20), (.p, 21), (.r, 22), (.l, 23), (.p, 24), (.p, 25), (.p, 26)] (by kernel_rfl) (by kernel_rfl) (by kernel_rfl) (by kernel_rfl) (by kernel_rfl) ?_
      replace hw := hw.drew
      replace f1 := f1.d
      replace f := f.d
      refine wl_p (fun _ => o_faddr (s := 94) (i := 0) (off := 0) Tryz.underlying94 rfl Tryz.sizeOf39 rfl rfl rfl) ?_
      refine wl_r (o_loadbg Tryz.isAgg39 rfl f (by rfl)) ?_
      refine wl_call rfl (C_r11KeyY _ (by omega)) ?_
      rintro v53 w53 ⟨rfl, b53⟩
      simp only [drew_size] at b53
      have s53 := b53.size
      simp only [drew_size] at s53
      replace hw := hw.trans (b53.mono hw.size)
      replace f := f.u b53
      replace f1 := f1.u b53
      refine wl_p (fun _ => o_not rfl) ?_
      refine wl_p (fun _ => o_move rfl) ?_
      refine wl_p (fun _ => o_faddr (s := 94) (i := 1) (off := 1) Tryz.underlying94 rfl Tryz.sizeOf39 rfl rfl rfl) ?_
      refine wl_r (o_loadbg Tryz.isAgg39 rfl f (by rfl)) ?_
      refine wl_call rfl (C_r11ValueY _ (by omega)) ?_
      rintro v58 w58 ⟨rfl, b58⟩
      have s58 := b58.size
      replace hw := hw.trans (b58.mono hw.size)
      replace f1 := f1.u b58
      replace f := f.u b58
      refine wl_p (fun _ => o_not rfl) ?_
      refine wl_p (fun _ => o_pick_f rfl rfl) ?_
      refine wl_p (fun _ => o_move rfl) ?_
      refine wl_p (fun _ => o_move rfl) ?_
      refine wl_p (fun _ => o_gt rfl rfl) ?_
      refine wl_p (fun _ => o_move rfl) ?_
      refine wl_know 64 true rfl (decide_eq_true (by omega)) ?_
      refine wl_p (fun _ => o_faddr (s := 31) (i := 0) (off := 0) Tryz.underlying31 rfl Tryz.sizeOf28 rfl rfl rfl) ?_
      refine wl_r (o_loadbg Tryz.isAgg28 rfl f1 (by rfl)) ?_
      refine wl_p (fun _ => o_move rfl) ?_
      refine wl_p (fun _ => o_sub rfl rfl (by omega) (by omega)) ?_
      refine wl_p (fun _ => (o_iaddrA (i - 1) Tryz.underlying28 Tryz.sizeOf94 rfl rfl (by omega) (hA.some_ (by omega)) (by omega))) ?_
      refine wl_p (fun _ => (o_faddrR rfl Tryz.underlying94 (by rfl) Tryz.sizeOf39 (by rfl) (by rfl))) ?_
      refine wl_ldKey rfl hA hw (by omega) ?_
      rintro A171 c171 f71 i71
      refine wl_p (fun _ => o_faddr (s := 94) (i := 0) (off := 0) Tryz.underlying94 rfl Tryz.sizeOf39 rfl rfl rfl) ?_
      refine wl_r (o_loadbg Tryz.isAgg39 rfl f (by rfl)) ?_
      refine wl_call rfl (C_r11Compare _ (f71.u hw) (f50.u hw) rfl rfl (by omega) (by omega)) ?_
      rintro v74 w74 ⟨rfl, b74⟩
      have s74 := b74.size
      replace hw := hw.trans (b74.mono hw.size)
      replace f := f.u b74
      replace f1 := f1.u b74
      refine wl_p (fun _ => o_ge rfl rfl) ?_
      refine wl_p (fun _ => o_pick_t rfl rfl) ?_
      refine wl_p (fun _ => o_pick_f rfl rfl) ?_
      refine wl_nild ?_
      refine rk_if rfl (fun h77 => ?_) (fun h77 => ?_)
      ·rw [if_neg (fun h => absurd ((h.2.2.1 i hil).2 k3) (by omega))]
       refine rk_seq ?_
       refine rk_region ?_
       refine wl_p (fun _ => o_assign rfl) ?_
       refine wl_nil ?_
       refine ret1 rfl rfl ?_
       exact ⟨rfl, hw⟩
      ·refine rk_skip ?_
       refine rk_blk ?_
       refine rk_region ?_
       refine wl_p (fun _ => o_move rfl) ?_
       refine wl_p (fun _ => o_add rfl rfl (by omega) (by omega)) ?_
       refine wl_p (fun _ => o_assign rfl) ?_
       refine wl_nil ?_
       exact rk_againf (Fr.le_of (by kernel_rfl) (by kernel_rfl) (by repeat' constructor)) ⟨i + 1, (i : Int) + 1, rfl, by omega, by omega, rfl, fun j hj hji => by
        rcases Nat.lt_or_ge j i with h | h
        ·exact hok j hj h
        ·obtain rfl : j = i := by omega
         exact ⟨⟨k1, k2⟩, fun _ => by omega⟩, f1, hw⟩ (by omega)
     ·refine rk_seq ?_
      refine rk_seq ?_
      refine rk_region ?_
      refine wl_p (fun _ => o_move rfl) ?_
      refine wl_p (fun _ => o_faddr (s := 31) (i := 0) (off := 0) Tryz.underlying31 rfl Tryz.sizeOf28 rfl rfl rfl) ?_
      refine wl_r (o_loadbg Tryz.isAgg28 rfl f1 (by rfl)) ?_
      refine wl_p (fun _ => o_len (t := 28) Tryz.underlying28 rfl) ?_
      refine wl_p (fun _ => o_lt rfl rfl) ?_
      refine wl_nil ?_
      refine rk_if rfl (fun h43 => ?_) (fun h43 => h43.elim (by omega))
      refine rk_skip ?_
      refine rk_seq ?_
      refine rk_block ?_
      refine rk_seq ?_
      refine rk_region ?_
      refine wl_p (fun _ => o_faddr (s := 31) (i := 0) (off := 0) Tryz.underlying31 rfl Tryz.sizeOf28 rfl rfl rfl) ?_
      refine wl_r (o_loadbg Tryz.isAgg28 rfl f1 (by rfl)) ?_
      refine wl_p (fun _ => o_move rfl) ?_
      refine wl_p (fun _ => (o_iaddrA (i) Tryz.underlying28 Tryz.sizeOf94 rfl rfl rfl (hA.some_ (by omega)) (by omega))) ?_
      refine wl_ldItem rfl hA hw (by omega) ?_
      rintro A150 c150 A250 c250 f50 f50_1 i50 i50_1
      refine wl_allocg [_, _] Tryz.zeroValue94 (by rfl) ?_
      rintro g4 w4 f4 b4 i4 i4_1
      have s4 := b4.size
      replace hw := hw.trans (b4.mono hw.size)
      replace f1 := f1.u b4
      refine wl_storega Tryz.sizeOf94 rfl rfl (by rfl) (oneCell_of (by rfl)) f4 (by rfl) ?_
      rintro w_1 f g e_1
      have s := g.size
      replace hw := hw.trans (below_of_grownBy g.g hw.size (by omega))
      replace f1 := f1.y g (by decide)
      clear f4
      refine wl_nil ?_
      refine rk_seq ?_
      refine rk_draw (id := 7) (none) [0, 1, 2, 4, 12, 16, 48, 80, 144, 272, 640, 1024, 3072, 5120, 8192, 24576, 8192, 73728, 172032, 270336, 532480, 8192, 2105344, 5251072, 8396800, 16786432, 33555456] [0, 1, 3, 7, 15, 31, 63, 127, 255, 511, 1023, 2047, 4095, 8191, 16383, 32767, 16383, 81919, 262143, 524287, 1048575, 16383, 2113535, 8388607, 16777215, 33554431, 67108863] 8388740 0 [(.p, 0), (.r, 1), (.l, 2), (.p, 3), (.p, 4), (.p, 5), (.r, 6), (.l, 7), (.p, 8), (.p, 9), (.p, 10), (.p, 11), (.p, 12), (.p, 13), (.p, 14), (.r, 15), (.p, 16), (.p, 17), (.p, 18), (.p, 19), (.r, 20), (.p, 21), (.r, 22), (.l, 23), (.p, 24), (.p, 25), (.p, 26)] (by kernel_rfl) (by kernel_rfl) (by kernel_rfl) (by kernel_rfl) (by kernel_rfl) ?_
      replace hw := hw.drew
      replace f1 := f1.d
      replace f := f.d
      refine wl_p (fun _ => o_faddr (s := 94) (i := 0) (off := 0) Tryz.underlying94 rfl Tryz.sizeOf39 rfl rfl rfl) ?_
      refine wl_r (o_loadbg Tryz.isAgg39 rfl f (by rfl)) ?_
      refine wl_call rfl (C_r11KeyY _ (by omega)) ?_
      rintro v53 w53 ⟨rfl, b53⟩
      simp only [drew_size] at b53
      have s53 := b53.size
      simp only [drew_size] at s53
      replace hw := hw.trans (b53.mono hw.size)
      replace f := f.u b53
      replace f1 := f1.u b53
      refine wl_p (fun _ => o_not rfl) ?_
      refine wl_p (fun _ => o_move rfl) ?_
      refine wl_p (fun _ => o_faddr (s := 94) (i := 1) (off := 1) Tryz.underlying94 rfl Tryz.sizeOf39 rfl rfl rfl) ?_
      refine wl_r (o_loadbg Tryz.isAgg39 rfl f (by rfl)) ?_
      refine wl_call rfl (C_r11ValueY _ (by omega)) ?_
      rintro v58 w58 ⟨rfl, b58⟩
      have s58 := b58.size
      replace hw := hw.trans (b58.mono hw.size)
      replace f1 := f1.u b58
      replace f := f.u b58
      refine wl_p (fun _ => o_not rfl) ?_
      refine wl_p (fun _ => o_pick_f rfl rfl) ?_
      refine wl_p (fun _ => o_move rfl) ?_
      refine wl_p (fun _ => o_move rfl) ?_
      refine wl_p (fun _ => o_gt rfl rfl) ?_
      refine wl_p (fun _ => o_move rfl) ?_
      refine wl_know 64 false rfl (decide_eq_false (by omega)) ?_
      refine wl_off ?_
      refine wl_off ?_
      refine wl_off ?_
      refine wl_off ?_
      refine wl_off ?_
      refine wl_off ?_
      refine wl_off ?_
      refine wl_off ?_
      refine wl_off ?_
      refine wl_off ?_
      refine wl_off ?_
      refine wl_p (fun _ => o_pick_f rfl rfl) ?_
      refine wl_p (fun _ => o_pick_f rfl rfl) ?_
      refine wl_nild ?_
      refine rk_false rfl ?_
      refine rk_skip ?_
      refine rk_blk ?_
      refine rk_region ?_
      refine wl_p (fun _ => o_move rfl) ?_
      refine wl_p (fun _ => o_add rfl rfl (by omega) (by omega)) ?_
      refine wl_p (fun _ => o_assign rfl) ?_
      refine wl_nil ?_
      exact rk_againf (Fr.le_of (by kernel_rfl) (by kernel_rfl) (by repeat' constructor)) ⟨i + 1, (i : Int) + 1, rfl, by omega, by omega, rfl, fun j hj hji => by
       rcases Nat.lt_or_ge j i with h | h
       ·exact hok j hj h
       ·obtain rfl : j = i := by omega
        exact ⟨⟨k1, k2⟩, fun h => absurd h k3⟩, f1, hw⟩ (by omega)
    ·rw [if_neg (fun h => k2 (h.2.2.1 i hil).1.2)]
     refine rk_seq ?_
     refine rk_seq ?_
     refine rk_region ?_
     refine wl_p (fun _ => o_move rfl) ?_
     refine wl_p (fun _ => o_faddr (s := 31) (i := 0) (off := 0) Tryz.underlying31 rfl Tryz.sizeOf28 rfl rfl rfl) ?_
     refine wl_r (o_loadbg Tryz.isAgg28 rfl f1 (by rfl)) ?_
     refine wl_p (fun _ => o_len (t := 28) Tryz.underlying28 rfl) ?_
     refine wl_p (fun _ => o_lt rfl rfl) ?_
     refine wl_nil ?_
     refine rk_if rfl (fun h43 => ?_) (fun h43 => h43.elim (by omega))
     refine rk_skip ?_
     refine rk_seq ?_
     refine rk_block ?_
     refine rk_seq ?_
     refine rk_region ?_
     refine wl_p (fun _ => o_faddr (s := 31) (i := 0) (off := 0) Tryz.underlying31 rfl Tryz.sizeOf28 rfl rfl rfl) ?_
     refine wl_r (o_loadbg Tryz.isAgg28 rfl f1 (by rfl)) ?_
     refine wl_p (fun _ => o_move rfl) ?_
     refine wl_p (fun _ => (o_iaddrA (i) Tryz.underlying28 Tryz.sizeOf94 rfl rfl rfl (hA.some_ (by omega)) (by omega))) ?_
     refine wl_ldItem rfl hA hw (by omega) ?_
     rintro A150 c150 A250 c250 f50 f50_1 i50 i50_1
     refine wl_allocg [_, _] Tryz.zeroValue94 (by rfl) ?_
     rintro g4 w4 f4 b4 i4 i4_1
     have s4 := b4.size
     replace hw := hw.trans (b4.mono hw.size)
     replace f1 := f1.u b4
     refine wl_storega Tryz.sizeOf94 rfl rfl (by rfl) (oneCell_of (by rfl)) f4 (by rfl) ?_
     rintro w_1 f g e_1
     have s := g.size
     replace hw := hw.trans (below_of_grownBy g.g hw.size (by omega))
     replace f1 := f1.y g (by decide)
     clear f4
     refine wl_nil ?_
     refine rk_seq ?_
     refine rk_draw (id := 7) (none) [0, 1, 2, 4, 12, 16, 48, 80, 144, 272, 640, 1024, 3072, 5120, 8192, 24576, 8192, 73728, 172032, 270336, 532480, 8192, 2105344, 5251072, 8396800, 16786432, 33555456] [0, 1, 3, 7, 15, 31, 63, 127, 255, 511, 1023, 2047, 4095, 8191, 16383, 32767, 16383, 81919, 262143, 524287, 1048575, 16383, 2113535, 8388607, 16777215, 33554431, 67108863] 8388740 0 [(.p, 0), (.r, 1), (.l, 2), (.p, 3), (.p, 4), (.p, 5), (.r, 6), (.l, 7), (.p, 8), (.p, 9), (.p, 10), (.p, 11), (.p, 12), (.p, 13), (.p, 14), (.r, 15), (.p, 16), (.p, 17), (.p, 18), (.p, 19), (.r, 20), (.p, 21), (.r, 22), (.l, 23), (.p, 24), (.p, 25), (.p, 26)] (by kernel_rfl) (by kernel_rfl) (by kernel_rfl) (by kernel_rfl) (by kernel_rfl) ?_
     replace hw := hw.drew
     replace f1 := f1.d
     replace f := f.d
     refine wl_p (fun _ => o_faddr (s := 94) (i := 0) (off := 0) Tryz.underlying94 rfl Tryz.sizeOf39 rfl rfl rfl) ?_
     refine wl_r (o_loadbg Tryz.isAgg39 rfl f (by rfl)) ?_
     refine wl_call rfl (C_r11KeyY _ (by omega)) ?_
     rintro v53 w53 ⟨rfl, b53⟩
     simp only [drew_size] at b53
     have s53 := b53.size
     simp only [drew_size] at s53
     replace hw := hw.trans (b53.mono hw.size)
     replace f := f.u b53
     replace f1 := f1.u b53
     refine wl_p (fun _ => o_not rfl) ?_
     refine wl_p (fun _ => o_move rfl) ?_
     refine wl_p (fun _ => o_faddr (s := 94) (i := 1) (off := 1) Tryz.underlying94 rfl Tryz.sizeOf39 rfl rfl rfl) ?_
     refine wl_r (o_loadbg Tryz.isAgg39 rfl f (by rfl)) ?_
     refine wl_call rfl (C_r11ValueN _ (by omega) (by omega)) ?_
     rintro v58 w58 ⟨rfl, b58⟩
     have s58 := b58.size
     replace hw := hw.trans (b58.mono hw.size)
     replace f1 := f1.u b58
     replace f := f.u b58
     refine wl_p (fun _ => o_not rfl) ?_
     refine wl_p (fun _ => o_pick_f rfl rfl) ?_
     refine wl_p (fun _ => o_move rfl) ?_
     refine wl_off ?_
     refine wl_off ?_
     refine wl_off ?_
     refine wl_off ?_
     refine wl_off ?_
     refine wl_off ?_
     refine wl_off ?_
     refine wl_off ?_
     refine wl_off ?_
     refine wl_off ?_
     refine wl_off ?_
     refine wl_off ?_
     refine wl_off ?_
     refine wl_off ?_
     refine wl_off ?_
     refine wl_p (fun _ => o_pick_t rfl rfl) ?_
     refine wl_nild ?_
     refine rk_true rfl ?_
     refine rk_seq ?_
     refine rk_region ?_
     refine wl_p (fun _ => o_assign rfl) ?_
     refine wl_nil ?_
     refine ret1 rfl rfl ?_
     exact ⟨rfl, hw⟩
   ·rw [if_neg (fun h => k1 (h.2.2.1 i hil).1.1)]
    refine rk_seq ?_
    refine rk_seq ?_
    refine rk_region ?_
    refine wl_p (fun _ => o_move rfl) ?_
    refine wl_p (fun _ => o_faddr (s := 31) (i := 0) (off := 0) Tryz.underlying31 rfl Tryz.sizeOf28 rfl rfl rfl) ?_
    refine wl_r (o_loadbg Tryz.isAgg28 rfl f1 (by rfl)) ?_
    refine wl_p (fun _ => o_len (t := 28) Tryz.underlying28 rfl) ?_
    refine wl_p (fun _ => o_lt rfl rfl) ?_
    refine wl_nil ?_
    refine rk_if rfl (fun h43 => ?_) (fun h43 => h43.elim (by omega))
    refine rk_skip ?_
    refine rk_seq ?_
    refine rk_block ?_
    refine rk_seq ?_
    refine rk_region ?_
    refine wl_p (fun _ => o_faddr (s := 31) (i := 0) (off := 0) Tryz.underlying31 rfl Tryz.sizeOf28 rfl rfl rfl) ?_
    refine wl_r (o_loadbg Tryz.isAgg28 rfl f1 (by rfl)) ?_
    refine wl_p (fun _ => o_move rfl) ?_
    refine wl_p (fun _ => (o_iaddrA (i) Tryz.underlying28 Tryz.sizeOf94 rfl rfl rfl (hA.some_ (by omega)) (by omega))) ?_
    refine wl_ldItem rfl hA hw (by omega) ?_
    rintro A150 c150 A250 c250 f50 f50_1 i50 i50_1
    refine wl_allocg [_, _] Tryz.zeroValue94 (by rfl) ?_
    rintro g4 w4 f4 b4 i4 i4_1
    have s4 := b4.size
    replace hw := hw.trans (b4.mono hw.size)
    replace f1 := f1.u b4
    refine wl_storega Tryz.sizeOf94 rfl rfl (by rfl) (oneCell_of (by rfl)) f4 (by rfl) ?_
    rintro w_1 f g e_1
    have s := g.size
    replace hw := hw.trans (below_of_grownBy g.g hw.size (by omega))
    replace f1 := f1.y g (by decide)
    clear f4
    refine wl_nil ?_
    refine rk_seq ?_
    refine rk_draw (id := 7) (none) [0, 1, 2, 4, 12, 16, 48, 80, 144, 272, 640, 1024, 3072, 5120, 8192, 24576, 8192, 73728, 172032, 270336, 532480, 8192, 2105344, 5251072, 8396800, 16786432, 33555456] [0, 1, 3, 7, 15, 31, 63, 127, 255, 511, 1023, 2047, 4095, 8191, 16383, 32767, 16383, 81919, 262143, 524287, 1048575, 16383, 2113535, 8388607, 16777215, 33554431, 67108863] 8388740 0 [(.p, 0), (.r, 1), (.l, 2), (.p, 3), (.p, 4), (.p, 5), (.r, 6), (.l, 7), (.p, 8), (.p, 9), (.p, 10), (.p, 11), (.p, 12), (.p, 13), (.p, 14), (.r, 15), (.p, 16), (.p, 17), (.p, 18), (.p, 19), (.r, 20), (.p, 21), (.r, 22), (.l, 23), (.p, 24), (.p, 25), (.p, 26)] (by kernel_rfl) (by kernel_rfl) (by kernel_rfl) (by kernel_rfl) (by kernel_rfl) ?_
    replace hw := hw.drew
    replace f1 := f1.d
    replace f := f.d
    refine wl_p (fun _ => o_faddr (s := 94) (i := 0) (off := 0) Tryz.underlying94 rfl Tryz.sizeOf39 rfl rfl rfl) ?_
    refine wl_r (o_loadbg Tryz.isAgg39 rfl f (by rfl)) ?_
    refine wl_call rfl (C_r11KeyN _ (by omega) (by omega)) ?_
    rintro v53 w53 ⟨rfl, b53⟩
    simp only [drew_size] at b53
    have s53 := b53.size
    simp only [drew_size] at s53
    replace hw := hw.trans (b53.mono hw.size)
    replace f := f.u b53
    replace f1 := f1.u b53
    refine wl_p (fun _ => o_not rfl) ?_
    refine wl_p (fun _ => o_move rfl) ?_
    refine wl_off ?_
    refine wl_off ?_
    refine wl_off ?_
    refine wl_off ?_
    refine wl_p (fun _ => o_pick_t rfl rfl) ?_
    refine wl_p (fun _ => o_move rfl) ?_
    refine wl_off ?_
    refine wl_off ?_
    refine wl_off ?_
    refine wl_off ?_
    refine wl_off ?_
    refine wl_off ?_
    refine wl_off ?_
    refine wl_off ?_
    refine wl_off ?_
    refine wl_off ?_
    refine wl_off ?_
    refine wl_off ?_
    refine wl_off ?_
    refine wl_off ?_
    refine wl_off ?_
    refine wl_p (fun _ => o_pick_t rfl rfl) ?_
    refine wl_nild ?_
    refine rk_true rfl ?_
    refine rk_seq ?_
    refine rk_region ?_
    refine wl_p (fun _ => o_assign rfl) ?_
    refine wl_nil ?_
    refine ret1 rfl rfl ?_
    exact ⟨rfl, hw⟩
  ·refine rk_seq ?_
   refine rk_seq ?_
   refine rk_region ?_
   refine wl_p (fun _ => o_move rfl) ?_
   refine wl_p (fun _ => o_faddr (s := 31) (i := 0) (off := 0) Tryz.underlying31 rfl Tryz.sizeOf28 rfl rfl rfl) ?_
   refine wl_r (o_loadbg Tryz.isAgg28 rfl f1 (by rfl)) ?_
   refine wl_p (fun _ => o_len (t := 28) Tryz.underlying28 rfl) ?_
   refine wl_p (fun _ => o_lt rfl rfl) ?_
   refine wl_nil ?_
   refine rk_if rfl (fun h43 => absurd h43 (by omega)) (fun h43 => ?_)
   refine rk_exit rfl ?_
   exact rk_tof hj (Fr.le_of (by kernel_rfl) (by kernel_rfl) (by repeat' constructor)) ⟨rfl, fun j h => hok j h (by omega), hw⟩
 clear hw f1
 rintro fr w2 ⟨rfl, hI, hw⟩
 first | refine rk_frame (by simp only [List.cons_append, List.nil_append, List.drop_succ_cons, List.drop_zero]; rfl) ?_ | refine wl_frame (by simp only [List.cons_append, List.nil_append, List.drop_succ_cons, List.drop_zero]; rfl) ?_
 rw [if_pos ⟨⟨by omega, by omega⟩, ⟨by omega, by omega⟩, hI, h5, h6⟩]
 refine rk_seq ?_
 refine rk_region ?_
 refine wl_p (fun _ => o_assign rfl) ?_
 refine wl_nil ?_
 refine ret1 rfl rfl ?_
 exact ⟨rfl, hw⟩
theorem C_r22CheckStateY {A B C : Option Addr} {I : List (By × By)} {X Y : List Ky} {n c m d q e : Nat} (w : World) (hok : OkSt I X Y) (hA : RI w A I) (hB : RKs w B X) (hC : RKs w C Y) (hn : n = I.length) (hm : m = X.length) (hq : q = Y.length) (hl : I.length ≤ 400000) (hl2 : X.length ≤ 400000) (hl3 : Y.length ≤ 400000) (hL : LtI I) :
  CallsR Tryz.prog 131 [.agg #[.slice A n c, .slice B m d, .slice C q e]] w fun v w' => v = .int .i64 0 ∧ Below w.heap.size w w' := by
 have h := K_r22CheckState (c := c) (d := d) (e := e) w hA hB hC hn hm hq hl hl2 hl3 hL
 rwa [if_pos hok] at h
theorem C_r22CheckStateN {A B C : Option Addr} {I : List (By × By)} {X Y : List Ky} {n c m d q e : Nat} (w : World) (hok : ¬OkSt I X Y) (hA : RI w A I) (hB : RKs w B X) (hC : RKs w C Y) (hn : n = I.length) (hm : m = X.length) (hq : q = Y.length) (hl : I.length ≤ 400000) (hl2 : X.length ≤ 400000) (hl3 : Y.length ≤ 400000) (hL : LtI I) :
  CallsR Tryz.prog 131 [.agg #[.slice A n c, .slice B m d, .slice C q e]] w fun v w' => v = .int .i64 2 ∧ Below w.heap.size w w' := by
 have h := K_r22CheckState (c := c) (d := d) (e := e) w hA hB hC hn hm hq hl hl2 hl3 hL
 rwa [if_neg hok] at h
structure PlaceR (I : List (By × By)) (p : By) (k : Nat) (b : Bool) : Prop where
 s : Srt (I.map Prod.fst)
 k : low (I.map Prod.fst) p = k
 b : decide (p ∈ I.map Prod.fst) = b
theorem C_r22place {A B C D : Option Addr} {I : List (By × By)} {p : By} {n c m d q e r s k : Nat} {b : Bool} (w : World) (hA : RI w A I) (hD : Rd w D p) (hp : PlaceR I p k b) (hn : n = I.length) (hr : r = p.length) (hl : I.length ≤ 400000) (hl2 : p.length ≤ 4000000) (hL : LtI I) :
  CallsR Tryz.prog 98 [.agg #[.slice A n c, .slice B m d, .slice C q e], .slice D r s] w fun v w' => v = .tuple #[.int .i64 (k : Int), .bool b] ∧ Below w.heap.size w w' := by
 subst hn; subst hr
 obtain ⟨hs, hk, hb⟩ := hp
 obtain ⟨s1, s2⟩ := low_spec hs p
 have hlow := low_le (I.map Prod.fst) p
 rw [List.length_map] at hlow
 refine callsR Tryz.func98 rfl rfl (by kernel_rfl) rfl ?_
 have hw := Below.refl w.heap.size w
 refine rk_seq ?_
 refine rk_region ?_
 refine wl_boxg [_, _, _] rfl (by rfl) ?_
 rintro g2 w2 f2 b2 i2 i2_1
 have s2_1 := b2.size
 replace hw := hw.trans (b2.mono hw.size)
 refine wl_p (fun _ => o_assign rfl) ?_
 refine wl_p (fun _ => o_assign rfl) ?_
 refine wl_nil ?_
 refine rk_seq ?_
 refine rk_region ?_
 refine wl_p (fun _ => o_assign rfl) ?_
 refine wl_nil ?_
 refine rk_seq ?_
 refine rk_block ?_
 refine rk_joinf (fun fb fr w2 => fr = [(6, .int .i64 (low (I.map Prod.fst) p : Int))] ++ fb.drop 1 ∧ Blk w2 g2 31 [.slice A I.length c, .slice B m d, .slice C q e] ∧ Below w.heap.size w w2) ?_ (fun ks hj => ?_)
 rotate_left
 ·refine rk_loopf (fun fb k fr w2 => ∃ (i : Nat) (v : Int), fr = [(6, .int .i64 v)] ++ fb.drop 1 ∧ v = i ∧ i ≤ low (I.map Prod.fst) p ∧ k = low (I.map Prod.fst) p - i ∧ Blk w2 g2 31 [.slice A I.length c, .slice B m d, .slice C q e] ∧ Below w.heap.size w w2) (n := low (I.map Prod.fst) p) (Fr.le_of (by kernel_rfl) (by kernel_rfl) (by repeat' constructor)) ⟨0, _, rfl, rfl, by omega, rfl, f2, hw⟩ ?_
  clear hw f2
  rintro k fr w2 ⟨i, v, rfl, rfl, hi, rfl, f2, hw⟩
  have shw := hw.size
  first | refine rk_frame (by simp only [List.cons_append, List.nil_append, List.drop_succ_cons, List.drop_zero]; rfl) ?_ | refine wl_frame (by simp only [List.cons_append, List.nil_append, List.drop_succ_cons, List.drop_zero]; rfl) ?_
  by_cases hil : i < I.length
  ·obtain ⟨n1, n2⟩ := hL _ (List.getElem_mem hil)
   by_cases h2 : i < low (I.map Prod.fst) p
   ·have h3 := s1 i (by rw [List.length_map]; exact hil) h2
    rw [List.getElem_map] at h3
    refine rk_seq ?_
    refine rk_seq ?_
    refine rk_region ?_
    refine wl_p (fun _ => o_move rfl) ?_
    refine wl_p (fun _ => o_faddr (s := 31) (i := 0) (off := 0) Tryz.underlying31 rfl Tryz.sizeOf28 rfl rfl rfl) ?_
    refine wl_r (o_loadbg Tryz.isAgg28 rfl f2 (by rfl)) ?_
    refine wl_p (fun _ => o_len (t := 28) Tryz.underlying28 rfl) ?_
    refine wl_p (fun _ => o_lt rfl rfl) ?_
    refine wl_p (fun _ => o_move rfl) ?_
    refine wl_know 12 true rfl (decide_eq_true (by omega)) ?_
    refine wl_p (fun _ => o_faddr (s := 31) (i := 0) (off := 0) Tryz.underlying31 rfl Tryz.sizeOf28 rfl rfl rfl) ?_
    refine wl_r (o_loadbg Tryz.isAgg28 rfl f2 (by rfl)) ?_
    refine wl_p (fun _ => o_move rfl) ?_
    refine wl_p (fun _ => (o_iaddrA (i) Tryz.underlying28 Tryz.sizeOf94 rfl rfl rfl (hA.some_ (by omega)) (by omega))) ?_
    refine wl_p (fun _ => (o_faddrR rfl Tryz.underlying94 (by rfl) Tryz.sizeOf39 (by rfl) (by rfl))) ?_
    refine wl_ldKey rfl hA hw (by omega) ?_
    rintro A118 c118 f18 i18
    refine wl_p (fun _ => o_move rfl) ?_
    refine wl_call rfl (C_r11Compare _ (f18.u hw) (hD.u hw) rfl rfl (by omega) (by omega)) ?_
    rintro v20 w20 ⟨rfl, b20⟩
    have s20 := b20.size
    replace hw := hw.trans (b20.mono hw.size)
    replace f2 := f2.u b20
    refine wl_p (fun _ => o_lt rfl rfl) ?_
    refine wl_p (fun _ => o_pick_t rfl rfl) ?_
    refine wl_nil ?_
    refine rk_if rfl (fun h22 => ?_) (fun h22 => h22.elim (by omega))
    refine rk_skip ?_
    refine rk_block ?_
    refine rk_region ?_
    refine wl_p (fun _ => o_move rfl) ?_
    refine wl_p (fun _ => o_add rfl rfl (by omega) (by omega)) ?_
    refine wl_p (fun _ => o_assign rfl) ?_
    refine wl_nil ?_
    refine rk_blk ?_
    exact rk_againf (Fr.le_of (by kernel_rfl) (by kernel_rfl) (by repeat' constructor)) ⟨i + 1, (i : Int) + 1, rfl, by omega, by omega, rfl, f2, hw⟩ (by omega)
   ·have h3 := s2 i (by rw [List.length_map]; exact hil) (by omega)
    rw [List.getElem_map] at h3
    refine rk_seq ?_
    refine rk_seq ?_
    refine rk_region ?_
    refine wl_p (fun _ => o_move rfl) ?_
    refine wl_p (fun _ => o_faddr (s := 31) (i := 0) (off := 0) Tryz.underlying31 rfl Tryz.sizeOf28 rfl rfl rfl) ?_
    refine wl_r (o_loadbg Tryz.isAgg28 rfl f2 (by rfl)) ?_
    refine wl_p (fun _ => o_len (t := 28) Tryz.underlying28 rfl) ?_
    refine wl_p (fun _ => o_lt rfl rfl) ?_
    refine wl_p (fun _ => o_move rfl) ?_
    refine wl_know 12 true rfl (decide_eq_true (by omega)) ?_
    refine wl_p (fun _ => o_faddr (s := 31) (i := 0) (off := 0) Tryz.underlying31 rfl Tryz.sizeOf28 rfl rfl rfl) ?_
    refine wl_r (o_loadbg Tryz.isAgg28 rfl f2 (by rfl)) ?_
    refine wl_p (fun _ => o_move rfl) ?_
    refine wl_p (fun _ => (o_iaddrA (i) Tryz.underlying28 Tryz.sizeOf94 rfl rfl rfl (hA.some_ (by omega)) (by omega))) ?_
    refine wl_p (fun _ => (o_faddrR rfl Tryz.underlying94 (by rfl) Tryz.sizeOf39 (by rfl) (by rfl))) ?_
    refine wl_ldKey rfl hA hw (by omega) ?_
    rintro A118 c118 f18 i18
    refine wl_p (fun _ => o_move rfl) ?_
    refine wl_call rfl (C_r11Compare _ (f18.u hw) (hD.u hw) rfl rfl (by omega) (by omega)) ?_
    rintro v20 w20 ⟨rfl, b20⟩
    have s20 := b20.size
    replace hw := hw.trans (b20.mono hw.size)
    replace f2 := f2.u b20
    refine wl_p (fun _ => o_lt rfl rfl) ?_
    refine wl_p (fun _ => o_pick_t rfl rfl) ?_
    refine wl_nil ?_
    refine rk_if rfl (fun h22 => absurd h22 (by omega)) (fun h22 => ?_)
    refine rk_exit rfl ?_
    obtain rfl : i = low (I.map Prod.fst) p := by omega
    exact rk_tof hj (Fr.le_of (by kernel_rfl) (by kernel_rfl) (by repeat' constructor)) ⟨rfl, f2, hw⟩
  ·refine rk_seq ?_
   refine rk_seq ?_
   refine rk_region ?_
   refine wl_p (fun _ => o_move rfl) ?_
   refine wl_p (fun _ => o_faddr (s := 31) (i := 0) (off := 0) Tryz.underlying31 rfl Tryz.sizeOf28 rfl rfl rfl) ?_
   refine wl_r (o_loadbg Tryz.isAgg28 rfl f2 (by rfl)) ?_
   refine wl_p (fun _ => o_len (t := 28) Tryz.underlying28 rfl) ?_
   refine wl_p (fun _ => o_lt rfl rfl) ?_
   refine wl_p (fun _ => o_move rfl) ?_
   refine wl_know 12 false rfl (decide_eq_false (by omega)) ?_
   refine wl_off ?_
   refine wl_off ?_
   refine wl_off ?_
   refine wl_off ?_
   refine wl_off ?_
   refine wl_off ?_
   refine wl_off ?_
   refine wl_off ?_
   refine wl_off ?_
   refine wl_p (fun _ => o_pick_f rfl rfl) ?_
   refine wl_nil ?_
   refine rk_false rfl ?_
   refine rk_exit rfl ?_
   obtain rfl : i = low (I.map Prod.fst) p := by omega
   exact rk_tof hj (Fr.le_of (by kernel_rfl) (by kernel_rfl) (by repeat' constructor)) ⟨rfl, f2, hw⟩
 clear hw f2
 rintro fr w2 ⟨rfl, f2, hw⟩
 have shw := hw.size
 rw [hk] at s1 s2 hlow ⊢
 have hhas := has_eq hs s1 s2
 first | refine rk_frame (by simp only [List.cons_append, List.nil_append, List.drop_succ_cons, List.drop_zero]; rfl) ?_ | refine wl_frame (by simp only [List.cons_append, List.nil_append, List.drop_succ_cons, List.drop_zero]; rfl) ?_
 by_cases hkl : k < I.length
 ·obtain ⟨n1, n2⟩ := hL _ (List.getElem_mem hkl)
  have hb2 : b = decide (I[k].1 = p) := by
   rw [← hb]
   refine decide_eq_decide.2 (hhas.trans ⟨fun ⟨h1, h2⟩ => ?_, fun h => ⟨by rw [List.length_map]; exact hkl, ?_⟩⟩)
   ·rw [List.getElem_map] at h2
    exact (cmpL_zero _ _).1 h2
   ·rw [List.getElem_map]
    exact (cmpL_zero _ _).2 h
  refine rk_seq ?_
  refine rk_draw (id := 4) (none) [0, 0, 0, 4, 8, 18, 32, 64, 192, 64, 832, 1088, 2112, 4160, 64, 16448, 41024, 65600, 65, 524287] [0, 0, 0, 4, 12, 30, 62, 126, 254, 126, 1022, 2046, 4094, 8190, 126, 16510, 65534, 131070, 127, 524287] 0 0 [(.p, 0), (.p, 1), (.p, 2), (.r, 3), (.p, 4), (.p, 5), (.p, 6), (.p, 7), (.r, 8), (.p, 9), (.p, 10), (.p, 11), (.r, 12), (.r, 13), (.p, 14), (.r, 15), (.p, 16), (.p, 17), (.p, 18), (.p, 19)] (by kernel_rfl) (by kernel_rfl) (by kernel_rfl) (by kernel_rfl) (by kernel_rfl) ?_
  replace hw := hw.drew
  replace f2 := f2.d
  refine wl_p (fun _ => o_move rfl) ?_
  refine wl_p (fun _ => o_move rfl) ?_
  refine wl_p (fun _ => o_faddr (s := 31) (i := 0) (off := 0) Tryz.underlying31 rfl Tryz.sizeOf28 rfl rfl rfl) ?_
  refine wl_r (o_loadbg Tryz.isAgg28 rfl f2 (by rfl)) ?_
  refine wl_p (fun _ => o_len (t := 28) Tryz.underlying28 rfl) ?_
  refine wl_p (fun _ => o_lt rfl rfl) ?_
  refine wl_p (fun _ => o_move rfl) ?_
  refine wl_know 31 true rfl (decide_eq_true (by omega)) ?_
  refine wl_p (fun _ => o_faddr (s := 31) (i := 0) (off := 0) Tryz.underlying31 rfl Tryz.sizeOf28 rfl rfl rfl) ?_
  refine wl_r (o_loadbg Tryz.isAgg28 rfl f2 (by rfl)) ?_
  refine wl_p (fun _ => o_move rfl) ?_
  refine wl_p (fun _ => (o_iaddrA (k) Tryz.underlying28 Tryz.sizeOf94 rfl rfl rfl (hA.some_ (by omega)) (by omega))) ?_
  refine wl_p (fun _ => (o_faddrR rfl Tryz.underlying94 (by rfl) Tryz.sizeOf39 (by rfl) (by rfl))) ?_
  refine wl_ldKey rfl hA hw (by omega) ?_
  rintro A137 c137 f37 i37
  refine wl_r (o_strU Tryz.underlying39 Tryz.underlying5 Tryz.underlying9 rfl f37 hw rfl) ?_
  refine wl_p (fun _ => o_move rfl) ?_
  refine wl_r (o_strU Tryz.underlying39 Tryz.underlying5 Tryz.underlying9 rfl hD hw rfl) ?_
  refine wl_p (fun _ => o_seq rfl rfl) ?_
  refine wl_p (fun _ => o_pick_t rfl rfl) ?_
  refine wl_p (fun _ => o_assign rfl) ?_
  refine wl_p (fun _ => o_assign rfl) ?_
  refine wl_nild ?_
  refine ret2 rfl rfl rfl ?_
  exact ⟨by rw [hb2], hw⟩
 ·have hb2 : b = false := by
   rw [← hb]
   refine decide_eq_false (fun h => ?_)
   obtain ⟨h1, _⟩ := hhas.1 h
   rw [List.length_map] at h1
   exact hkl h1
  refine rk_seq ?_
  refine rk_draw (id := 4) (none) [0, 0, 0, 4, 8, 18, 32, 64, 192, 64, 832, 1088, 2112, 4160, 64, 16448, 41024, 65600, 65, 524287] [0, 0, 0, 4, 12, 30, 62, 126, 254, 126, 1022, 2046, 4094, 8190, 126, 16510, 65534, 131070, 127, 524287] 0 0 [(.p, 0), (.p, 1), (.p, 2), (.r, 3), (.p, 4), (.p, 5), (.p, 6), (.p, 7), (.r, 8), (.p, 9), (.p, 10), (.p, 11), (.r, 12), (.r, 13), (.p, 14), (.r, 15), (.p, 16), (.p, 17), (.p, 18), (.p, 19)] (by kernel_rfl) (by kernel_rfl) (by kernel_rfl) (by kernel_rfl) (by kernel_rfl) ?_
  replace hw := hw.drew
  replace f2 := f2.d
  refine wl_p (fun _ => o_move rfl) ?_
  refine wl_p (fun _ => o_move rfl) ?_
  refine wl_p (fun _ => o_faddr (s := 31) (i := 0) (off := 0) Tryz.underlying31 rfl Tryz.sizeOf28 rfl rfl rfl) ?_
  refine wl_r (o_loadbg Tryz.isAgg28 rfl f2 (by rfl)) ?_
  refine wl_p (fun _ => o_len (t := 28) Tryz.underlying28 rfl) ?_
  refine wl_p (fun _ => o_lt rfl rfl) ?_
  refine wl_p (fun _ => o_move rfl) ?_
  refine wl_know 31 false rfl (decide_eq_false (by omega)) ?_
  refine wl_off ?_
  refine wl_off ?_
  refine wl_off ?_
  refine wl_off ?_
  refine wl_off ?_
  refine wl_off ?_
  refine wl_off ?_
  refine wl_off ?_
  refine wl_off ?_
  refine wl_off ?_
  refine wl_p (fun _ => o_pick_f rfl rfl) ?_
  refine wl_p (fun _ => o_assign rfl) ?_
  refine wl_p (fun _ => o_assign rfl) ?_
  refine wl_nild ?_
  refine ret2 rfl rfl rfl ?_
  exact ⟨by rw [hb2], hw⟩
def ItK (w : World) (A : Option Addr) (j : Nat) (V : Option Addr) (m d : Nat) : Prop := ∃ v0, CellsAt w A (j * 2) [.slice V m d, v0]
theorem ItK.u {w w' : World} {A V : Option Addr} {j m d : Nat} (h : ItK w A j V m d) (hb : Below w.heap.size w w') : ItK w' A j V m d := by
 obtain ⟨v0, h1⟩ := h
 exact ⟨v0, h1.u hb⟩
theorem o_ldItK {N : Nat} {fr : Fr} {w w0 : World} {ty : TypeId} {x : Operand} {A V : Option Addr} {j o m d : Nat} (hx : fr.ev x = some (.pointer (some (adr A (j * 2 + o))))) (ho : o = 0) (h : ItK w0 A j V m d) (hb : Below w0.heap.size w0 w) : OpV Tryz.prog N fr w (.load 39 x) ty (.slice V m d) w := by
 subst ho
 obtain ⟨v0, h1⟩ := h.u hb
 exact o_load (t := 39) Tryz.isAgg39 hx (h1 0 _ rfl)
section
variable {fn : Func} {F : Ending → World → Prop} {N : Nat} {ks : List K} {ops : Array Oper} {tg : Tags} {l : List Oper} {fr : Fr} {w w0 : World} {ty : TypeId} {pos : String} {aft : Array Edge} {gd : Option (Nat × Bool)} {d j q lo hi : Nat} {x y : Operand} {A B : Option Addr} {m : By}
theorem Tryz.rowB8 : RowT Tryz.prog 39 5 (.int .u8 0) 1 1 := ⟨Tryz.underlying39, by kernel_rfl, rfl, by omega⟩
theorem wl_appB01 (hx : fr.ev x = some (.slice A 0 0)) (hown : OwnH w lo hi A 0 []) (hy : fr.ev y = some (.slice B j q)) (hr : Rd w0 B m) (hb : Below w0.heap.size w0 w) (hj : j = m.length) (hlen : m.length ≤ 4000000000) (hB : lo ≤ w.heap.size)
  (h : ∀ A' c' w', OwnH w' lo w'.heap.size A' c' m → Below w.heap.size w w' → WL Tryz.prog fn F N ks ops tg.tail l ((d, .slice A' m.length c') :: fr) w')
  (ht : tg.loud = true := by rfl) (hg : onG ops fr gd = true := by rfl) (hd : Nat.blt d N = true := by rfl) :
  WL Tryz.prog fn F N ks ops tg (⟨some d, .call { callee := .builtin .append, args := #[x, y], argTypes := #[39, 39] }, ty, pos, aft, gd⟩ :: l) fr w := by
 subst hj
 exact wl_appR0 (hi := hi) Tryz.rowB8 hx hown hy (hr.below hb) (B8_oneCell m) (by simp only [maxLen]; omega) (by omega) hB (fun A' c' w' k1 k2 => h A' c' w' k1 k2) ht hg hd
end
set_option maxRecDepth 100000 in
set_option maxHeartbeats 2000000 in
theorem C_r22Copy {A B C : Option Addr} {I : List (By × By)} {X Y : List Ky} {n c m d q e : Nat} (w : World) (hA : RI w A I) (hB : RKs w B X) (hC : RKs w C Y) (hn : n = I.length) (hm : m = X.length) (hq : q = Y.length) (hl : I.length ≤ 400000) (hl2 : X.length ≤ 400000) (hl3 : Y.length ≤ 400000) (hL : LtI I) :
  CallsR Tryz.prog 21 [.agg #[.slice A n c, .slice B m d, .slice C q e]] w fun v w' => ∃ A' c' B' d' C' e', v = .agg #[.slice A' I.length c', .slice B' X.length d', .slice C' Y.length e'] ∧ OwnI w' w.heap.size w'.heap.size A' c' I ∧ RKT w' B' X ∧ RKT w' C' Y ∧ X.length ≤ d' ∧ Y.length ≤ e' ∧ Below w.heap.size w w' := by
 subst hn; subst hm; subst hq
 refine callsR Tryz.func21 rfl rfl (by kernel_rfl) rfl ?_
 have hw := Below.refl w.heap.size w
 refine rk_seq ?_
 refine rk_region ?_
 refine wl_boxg [_, _, _] rfl (by rfl) ?_
 rintro g1 w1 f1 b1 i1 i1_1
 have s1 := b1.size
 replace hw := hw.trans (b1.mono hw.size)
 refine wl_allocg [_, _, _] Tryz.zeroValue31 (by rfl) ?_
 rintro g2 w2 f2 b2 i2 i2_1
 have s2 := b2.size
 replace hw := hw.trans (b2.mono hw.size)
 replace f1 := f1.u b2
 refine wl_nil ?_
 refine rk_seq ?_
 refine rk_drawoB (id := 1) (none) [0, 0, 2, 5, 0, 0, 32, 88, 136, 0, 1023] [0, 0, 2, 7, 0, 0, 32, 127, 255, 0, 1023] 1689 537 [1, 2, 5, 6] [(.p, 1), (.s, 2), (.p, 5), (.s, 6), (.f 102 1689 537, 7)] (by kernel_rfl) (by kernel_rfl) (by kernel_rfl) (by kernel_rfl) (by kernel_rfl) ?_
 dsimp only [inOrder, nthOp]
 replace hw := hw.drew
 replace f1 := f1.d
 replace f2 := f2.d
 refine wl_p (fun _ => o_faddr (s := 31) (i := 1) (off := 1) Tryz.underlying31 rfl Tryz.sizeOf29 rfl rfl rfl) ?_
 refine wl_s (fun _ hk => (o_loadbg Tryz.isAgg29 rfl (f1.u (below_of_ok hk (Nat.le_refl _) (fun _ e => by cases e))) (by rfl))) ?_
 refine wl_p (fun _ => o_faddr (s := 31) (i := 2) (off := 2) Tryz.underlying31 rfl Tryz.sizeOf29 rfl rfl rfl) ?_
 refine wl_s (fun _ hk => (o_loadbg Tryz.isAgg29 rfl (f1.u (below_of_ok hk (Nat.le_refl _) (fun _ e => by cases e))) (by rfl))) ?_
 have szw := hw.size
 refine wl_conc [⟨0, [], [5], [], fun vs w' lo hi => ∃ (A5 : Option Addr), vs = [.slice A5 0 0] ∧ OwnKs w' lo hi A5 0 []⟩, ⟨3, [], [8], [0], fun vs w' lo hi => ∃ (A8 : Option Addr) (c8 : Nat), vs = [.slice A8 X.length c8] ∧ RKT w' A8 X ∧ X.length ≤ c8⟩, ⟨4, [], [9], [], fun vs w' lo hi => ∃ (A9 : Option Addr), vs = [.slice A9 0 0] ∧ OwnKs w' lo hi A9 0 []⟩, ⟨7, [(.p, 8)], [13, 12], [0, 1, 2], fun vs w' lo hi => ∃ (A12 : Option Addr) (c12 : Nat) (B8 : Option Addr) (d8 : Nat), vs = [.agg #[.slice none 0 0, .slice B8 X.length d8, .slice A12 Y.length c12], .slice A12 Y.length c12] ∧ RKT w' B8 X ∧ RKT w' A12 Y ∧ X.length ≤ d8 ∧ Y.length ≤ c12⟩, ⟨9, [], [3], [], fun vs w' lo hi => ∃ (g3 : Nat), vs = [.pointer (some ⟨g3, 0, none⟩)] ∧ Blk w' g3 31 [.slice none 0 0, .slice none 0 0, .slice none 0 0] ∧ lo ≤ g3 ∧ g3 < hi⟩] [0, 1, 2, 3, 4] [0, 0, 2, 5, 0, 0, 32, 88, 136, 0, 1023] [0, 0, 2, 7, 0, 0, 32, 127, 255, 0, 1023] [10] [(.l, 10)] (by kernel_rfl) (by kernel_rfl) (by kernel_rfl) (by kernel_rfl) ⟨fun _ _ _ _ _ h hb => by obtain ⟨A5, e0, g0⟩ := h; exact ⟨A5, e0, g0.u hb⟩, fun _ _ _ _ _ h hb => by obtain ⟨A8, c8, e0, g0, g1⟩ := h; exact ⟨A8, c8, e0, g0.u hb, g1⟩, fun _ _ _ _ _ h hb => by obtain ⟨A9, e0, g0⟩ := h; exact ⟨A9, e0, g0.u hb⟩, fun _ _ _ _ _ h hb => by obtain ⟨A12, c12, B8, d8, e0, g0, g1, g2, g3⟩ := h; exact ⟨A12, c12, B8, d8, e0, g0.u hb, g1.u hb, g2, g3⟩, fun _ _ _ _ _ h hb => by obtain ⟨g3, e0, g0, g1, g2⟩ := h; exact ⟨g3, e0, g0.u hb, g1, g2⟩, trivial⟩ ⟨?_, ?_, ?_, ?_, ?_, trivial⟩ ?_
 ·intro wI hbI fo T T2 n2
  intro hk
  dsimp only [Item.idx, inOrder, nthOp, List.map, List.zip_cons_cons, List.zip_nil_right, List.cons_append, List.nil_append]
  have shbI := hbI.size
  simp only [drew_size] at shbI
  replace hw := hw.trans (hbI.mono hw.size)
  replace f2 := f2.u hbI
  replace f1 := f1.u hbI
  have hw1 := Below.refl wI.heap.size wI
  refine wl_litKs0 (by rfl) rfl (by rfl) ?_
  rintro A5 w5 f5 b5
  have qf5 := f5.cap
  have s5 := b5.size
  replace hw := hw.trans (b5.mono hw.size)
  replace hw1 := hw1.trans (b5.mono hw1.size)
  replace f1 := f1.u b5
  replace f2 := f2.u b5
  exact hk [_] _ ⟨_, rfl, f5⟩ hw1
 ·intro wI hbI fo T T2 n2
  rintro _ lo0 hi0 ⟨A5, rfl, f5⟩ ql0 qm0 qh0 -
  try dsimp only at ql0 qm0 qh0 
  try simp only [drew_size] at ql0 qm0 qh0 
  intro hk
  dsimp only [Item.idx, inOrder, nthOp, List.map, List.zip_cons_cons, List.zip_nil_right, List.cons_append, List.nil_append]
  have shbI := hbI.size
  simp only [drew_size] at shbI
  replace hw := hw.trans (hbI.mono hw.size)
  replace f2 := f2.u hbI
  replace f1 := f1.u hbI
  have hw1 := Below.refl wI.heap.size wI
  refine wl_appKs0 rfl f5 rfl hB hw rfl (by omega) (by omega) ?_
  rintro A8 c8 w8 f8 b8
  have qf8 := f8.cap
  have s8 := b8.size
  replace hw := hw.trans (b8.mono hw.size)
  replace hw1 := hw1.trans (b8.mono hw1.size)
  replace f1 := f1.u b8
  replace f2 := f2.u b8
  replace f5 := f5.u b8
  exact hk [_] _ ⟨_, _, rfl, f8.to_RKT, f8.cap⟩ hw1
 ·intro wI hbI fo T T2 n2
  intro hk
  dsimp only [Item.idx, inOrder, nthOp, List.map, List.zip_cons_cons, List.zip_nil_right, List.cons_append, List.nil_append]
  have shbI := hbI.size
  simp only [drew_size] at shbI
  replace hw := hw.trans (hbI.mono hw.size)
  replace f2 := f2.u hbI
  replace f1 := f1.u hbI
  have hw1 := Below.refl wI.heap.size wI
  refine wl_litKs0 (by rfl) rfl (by rfl) ?_
  rintro A9 w9 f9 b9
  have qf9 := f9.cap
  have s9 := b9.size
  replace hw := hw.trans (b9.mono hw.size)
  replace hw1 := hw1.trans (b9.mono hw1.size)
  replace f1 := f1.u b9
  replace f2 := f2.u b9
  exact hk [_] _ ⟨_, rfl, f9⟩ hw1
 ·intro wI hbI fo T T2 n2
  rintro _ lo0 hi0 ⟨A5, rfl, f5⟩ ql0 qm0 qh0 -
  rintro _ lo1 hi1 ⟨A8, c8, rfl, f8, f8_1⟩ ql1 qm1 qh1 ⟨qa1_0, -⟩
  rintro _ lo2 hi2 ⟨A9, rfl, f9⟩ ql2 qm2 qh2 ⟨qa2_1, qa2_0, -⟩
  try dsimp only at ql0 qm0 qh0  ql1 qm1 qh1 qa1_0 ql2 qm2 qh2 qa2_0 qa2_1
  try simp only [drew_size] at ql0 qm0 qh0  ql1 qm1 qh1 qa1_0 ql2 qm2 qh2 qa2_0 qa2_1
  intro hk
  dsimp only [Item.idx, inOrder, nthOp, List.map, List.zip_cons_cons, List.zip_nil_right, List.cons_append, List.nil_append]
  have shbI := hbI.size
  simp only [drew_size] at shbI
  replace hw := hw.trans (hbI.mono hw.size)
  replace f2 := f2.u hbI
  replace f1 := f1.u hbI
  have hw1 := Below.refl wI.heap.size wI
  refine wl_appKs0 rfl f9 rfl hC hw rfl (by omega) (by omega) ?_
  rintro A12 c12 w12 f12 b12
  have qf12 := f12.cap
  have s12 := b12.size
  replace hw := hw.trans (b12.mono hw.size)
  replace hw1 := hw1.trans (b12.mono hw1.size)
  replace f1 := f1.u b12
  replace f2 := f2.u b12
  replace f9 := f9.u b12
  replace f8 := f8.u b12
  replace f5 := f5.u b12
  refine wl_p (fun _ => (o_buildg [_, _, _] Tryz.underlying31 Tryz.zeroValue31 (by rfl) (by rfl) rfl (by rfl) (by rfl) (fun _ => by kernel_rfl))) ?_
  exact hk [_, _] _ ⟨_, _, _, _, rfl, f8, f12.to_RKT, by omega, f12.cap⟩ hw1
 ·intro wI hbI fo T T2 n2
  intro hk
  dsimp only [Item.idx, inOrder, nthOp, List.map, List.zip_cons_cons, List.zip_nil_right, List.cons_append, List.nil_append]
  have shbI := hbI.size
  simp only [drew_size] at shbI
  replace hw := hw.trans (hbI.mono hw.size)
  replace f2 := f2.u hbI
  replace f1 := f1.u hbI
  have hw1 := Below.refl wI.heap.size wI
  refine wl_allocg [_, _, _] Tryz.zeroValue31 (by rfl) ?_
  rintro g3 w3 f3 b3 i3 i3_1
  have s3 := b3.size
  replace hw := hw.trans (b3.mono hw.size)
  replace hw1 := hw1.trans (b3.mono hw1.size)
  replace f1 := f1.u b3
  replace f2 := f2.u b3
  exact hk [_] _ ⟨_, rfl, f3, by omega, by omega⟩ hw1
 intro wE hbE
 rintro _ lo0 hi0 ⟨A5, rfl, f5⟩ ql0 qm0 qh0 -
 rintro _ lo1 hi1 ⟨A8, c8, rfl, f8, f8_1⟩ ql1 qm1 qh1 ⟨qa1_0, -⟩
 rintro _ lo2 hi2 ⟨A9, rfl, f9⟩ ql2 qm2 qh2 ⟨qa2_1, qa2_0, -⟩
 rintro _ lo3 hi3 ⟨A12, c12, B8, d8, rfl, f12, f12_1, f12_2, f12_3⟩ ql3 qm3 qh3 ⟨qa3_2, qa3_1, qa3_0, -⟩
 rintro _ lo4 hi4 ⟨g3, rfl, f3, f3_1, f3_2⟩ ql4 qm4 qh4 ⟨qa4_3, qa4_2, qa4_1, qa4_0, -⟩
 try dsimp only at ql0 qm0 qh0  ql1 qm1 qh1 qa1_0 ql2 qm2 qh2 qa2_0 qa2_1 ql3 qm3 qh3 qa3_0 qa3_1 qa3_2 ql4 qm4 qh4 qa4_0 qa4_1 qa4_2 qa4_3
 try simp only [drew_size] at ql0 qm0 qh0  ql1 qm1 qh1 qa1_0 ql2 qm2 qh2 qa2_0 qa2_1 ql3 qm3 qh3 qa3_0 qa3_1 qa3_2 ql4 qm4 qh4 qa4_0 qa4_1 qa4_2 qa4_3
 dsimp only [given, Item.idx, inOrder, nthOp, List.map, List.zip_cons_cons, List.zip_nil_right]
 have shbE := hbE.size
 simp only [drew_size] at shbE
 replace hw := hw.trans (hbE.mono hw.size)
 replace f2 := f2.u hbE
 replace f1 := f1.u hbE
 refine wl_storega Tryz.sizeOf31 rfl rfl (by rfl) (oneCell_of (by rfl)) f3 (by rfl) ?_
 rintro w_1 f g e_1
 have s := g.size
 replace hw := hw.trans (below_of_grownBy g.g hw.size (by omega))
 replace f1 := f1.k g.g (ap_some (by omega))
 replace f2 := f2.k g.g (ap_some (by omega))
 replace f12_1 := f12_1.y g (by decide)
 replace f12 := f12.y g (by decide)
 replace f9 := f9.y g (by decide)
 replace f8 := f8.y g (by decide)
 replace f5 := f5.y g (by decide)
 clear f3
 refine wl_nild ?_
 refine rk_seq ?_
 refine rk_seq ?_
 refine rk_region ?_
 refine wl_p (fun _ => o_assign rfl) ?_
 refine wl_nil ?_
 refine rk_block ?_
 have s1 := hw.size
 have hlt1 := f1.lt
 have hlt2 := f2.lt
 have hlt3 := f.lt
 refine rk_joinf (fun fb fr V2 => ∃ A' c', fr = [] ++ fb.drop 1 ∧ OwnI V2 w2.heap.size V2.heap.size A' c' I ∧ Blk V2 g3 31 [.slice A' I.length c', .slice B8 X.length d8, .slice A12 Y.length c12] ∧ (RKT V2 B8 X ∧ RKT V2 A12 Y) ∧ Blk V2 g1 31 [.slice A I.length c, .slice B X.length d, .slice C Y.length e] ∧ Blk V2 g2 31 [.slice none 0 0, .slice none 0 0, .slice none 0 0] ∧ w_1.heap.size ≤ V2.heap.size ∧ Below w.heap.size w V2) ?_ (fun ks hj => ?_)
 rotate_left
 ·refine rk_loopf (fun fb k fr V2 => ∃ (i : Nat) (v : Int) (A' : Option Addr) (c' : Nat) (J : List (By × By)), fr = [(4, .int .i64 v)] ++ fb.drop 1 ∧ v = i ∧ i ≤ I.length ∧ k = I.length - i ∧ J = I.take i ∧ OwnI V2 w_1.heap.size V2.heap.size A' c' J ∧ Blk V2 g3 31 [.slice A' J.length c', .slice B8 X.length d8, .slice A12 Y.length c12] ∧ (RKT V2 B8 X ∧ RKT V2 A12 Y) ∧ Blk V2 g1 31 [.slice A I.length c, .slice B X.length d, .slice C Y.length e] ∧ Blk V2 g2 31 [.slice none 0 0, .slice none 0 0, .slice none 0 0] ∧ w_1.heap.size ≤ V2.heap.size ∧ Below w.heap.size w V2) (n := I.length) (Fr.le_of (by kernel_rfl) (by kernel_rfl) (by repeat' constructor)) ⟨0, _, none, 0, [], rfl, rfl, by omega, rfl, rfl, OwnI.nil_, f, ⟨f12, f12_1⟩, f1, f2, Nat.le_refl _, hw⟩ ?_
  clear hw f12 f12_1 f f1 f2 f8 f9 f5
  rintro k fr V2 ⟨i, v, A', c', J, rfl, rfl, hi, rfl, hJ, fo, f, ⟨f8, f12⟩, f1, f2, hsz, hw⟩
  have shw := hw.size
  have hJl : J.length = i := by rw [hJ, List.length_take]; omega
  first | refine rk_frame (by simp only [List.cons_append, List.nil_append, List.drop_succ_cons, List.drop_zero]; rfl) ?_ | refine wl_frame (by simp only [List.cons_append, List.nil_append, List.drop_succ_cons, List.drop_zero]; rfl) ?_
  by_cases hil : i < I.length
  ·obtain ⟨n1, n2⟩ := hL _ (List.getElem_mem hil)
   obtain ⟨Ai, ci, Vi, di, hcell, r1, r2, r3, r4⟩ := hA.elem hil
   have hik : ItK w A i Ai I[i].1.length ci := ⟨_, hcell⟩
   have hiv : ItV w A i Vi I[i].2.length di := ⟨_, hcell⟩
   clear hcell
   refine rk_seq ?_
   refine rk_seq ?_
   refine rk_region ?_
   refine wl_p (fun _ => o_move rfl) ?_
   refine wl_p (fun _ => o_faddr (s := 31) (i := 0) (off := 0) Tryz.underlying31 rfl Tryz.sizeOf28 rfl rfl rfl) ?_
   refine wl_r (o_loadbg Tryz.isAgg28 rfl f1 (by rfl)) ?_
   refine wl_p (fun _ => o_len (t := 28) Tryz.underlying28 rfl) ?_
   refine wl_p (fun _ => o_lt rfl rfl) ?_
   refine wl_nil ?_
   refine rk_if rfl (fun h18 => ?_) (fun h18 => h18.elim (by omega))
   refine rk_skip ?_
   refine rk_seq ?_
   refine rk_block ?_
   refine rk_drawoB (id := 5) (none) [0, 1, 0, 0, 8, 0, 48, 64, 128, 260, 0, 0, 2048, 0, 12288, 16384, 32768, 67072, 131584, 262144, 655362, 2097151, 4194303] [0, 1, 0, 0, 8, 0, 56, 120, 248, 508, 0, 0, 2048, 0, 14336, 30720, 63488, 131068, 262140, 524284, 1048575, 2097151, 4194303] 5899780 656900 [0, 1, 3, 4, 5, 6, 7, 8, 11, 12, 13, 14, 15, 16] [(.p, 0), (.s, 1), (.p, 3), (.s, 4), (.p, 5), (.p, 6), (.p, 7), (.s, 8), (.p, 11), (.s, 12), (.p, 13), (.p, 14), (.p, 15), (.s, 16), (.f 129531 5899780 656900, 9)] (by kernel_rfl) (by kernel_rfl) (by kernel_rfl) (by kernel_rfl) (by kernel_rfl) ?_
   dsimp only [inOrder, nthOp]
   replace hw := hw.drew
   replace f2 := f2.d
   replace f1 := f1.d
   replace f12 := f12.d
   replace f8 := f8.d
   replace f := f.d
   replace fo := fo.d
   refine wl_p (fun _ => o_faddr (s := 31) (i := 0) (off := 0) Tryz.underlying31 rfl Tryz.sizeOf28 rfl rfl rfl) ?_
   refine wl_s (fun _ hk => (o_loadbg Tryz.isAgg28 rfl (f.u (below_of_ok hk (Nat.le_refl _) (fun _ e => by cases e))) (by rfl))) ?_
   refine wl_p (fun _ => o_faddr (s := 31) (i := 0) (off := 0) Tryz.underlying31 rfl Tryz.sizeOf28 rfl rfl rfl) ?_
   refine wl_s (fun _ hk => (o_loadbg Tryz.isAgg28 rfl (f1.u (below_of_ok hk (Nat.le_refl _) (fun _ e => by cases e))) (by rfl))) ?_
   refine wl_p (fun _ => o_move rfl) ?_
   refine wl_p (fun _ => (o_iaddrA (i) Tryz.underlying28 Tryz.sizeOf94 rfl rfl rfl (hA.some_ (by omega)) (by omega))) ?_
   refine wl_p (fun _ => (o_faddrR rfl Tryz.underlying94 (by rfl) Tryz.sizeOf39 (by rfl) (by rfl))) ?_
   refine wl_s (fun _ hk => (o_ldItK rfl (by rfl) hik (hw.trans ((below_of_ok hk (by first | exact Nat.le_refl _ | omega) (fun _ e => by cases e)).mono (by first | exact hw.size | omega))))) ?_
   refine wl_p (fun _ => o_faddr (s := 31) (i := 0) (off := 0) Tryz.underlying31 rfl Tryz.sizeOf28 rfl rfl rfl) ?_
   refine wl_s (fun _ hk => (o_loadbg Tryz.isAgg28 rfl (f1.u (below_of_ok hk (Nat.le_refl _) (fun _ e => by cases e))) (by rfl))) ?_
   refine wl_p (fun _ => o_move rfl) ?_
   refine wl_p (fun _ => (o_iaddrA (i) Tryz.underlying28 Tryz.sizeOf94 rfl rfl rfl (hA.some_ (by omega)) (by omega))) ?_
   refine wl_p (fun _ => (o_faddrR rfl Tryz.underlying94 (by rfl) Tryz.sizeOf39 (by rfl) (by rfl))) ?_
   refine wl_s (fun _ hk => (o_ldItV rfl (by rfl) hiv (hw.trans ((below_of_ok hk (by first | exact Nat.le_refl _ | omega) (fun _ e => by cases e)).mono (by first | exact hw.size | omega))))) ?_
   refine wl_conc [⟨2, [], [23], [], fun vs w' lo hi => ∃ (A23 : Option Addr), vs = [.slice A23 0 0] ∧ OwnH w' lo hi A23 0 []⟩, ⟨9, [], [30], [0], fun vs w' lo hi => ∃ (A30 : Option Addr) (c30 : Nat), vs = [.slice A30 I[i].1.length c30] ∧ RdT w' A30 I[i].1 ∧ I[i].1.length ≤ c30 ∧ c30 ≤ maxLen⟩, ⟨10, [], [31], [], fun vs w' lo hi => ∃ (A31 : Option Addr), vs = [.slice A31 0 0] ∧ OwnH w' lo hi A31 0 []⟩] [0, 1, 2] [0, 1, 0, 0, 8, 0, 48, 64, 128, 260, 0, 0, 2048, 0, 12288, 16384, 32768, 67072, 131584, 262144, 655362, 2097151, 4194303] [0, 1, 0, 0, 8, 0, 56, 120, 248, 508, 0, 0, 2048, 0, 14336, 30720, 63488, 131068, 262140, 524284, 1048575, 2097151, 4194303] [17, 18, 19, 20, 21, 22] [(.c, 17), (.p, 18), (.c, 19), (.l, 20), (.p, 21), (.l, 22)] (by kernel_rfl) (by kernel_rfl) (by kernel_rfl) (by kernel_rfl) ⟨fun _ _ _ _ _ h hb => by obtain ⟨A23, e0, g0⟩ := h; exact ⟨A23, e0, g0.u hb⟩, fun _ _ _ _ _ h hb => by obtain ⟨A30, c30, e0, g0, g1, g2⟩ := h; exact ⟨A30, c30, e0, g0.u hb, g1, g2⟩, fun _ _ _ _ _ h hb => by obtain ⟨A31, e0, g0⟩ := h; exact ⟨A31, e0, g0.u hb⟩, trivial⟩ ⟨?_, ?_, ?_, trivial⟩ ?_
   ·intro wI hbI fo T T2 n2
    intro hk
    dsimp only [Item.idx, inOrder, nthOp, List.map, List.zip_cons_cons, List.zip_nil_right, List.cons_append, List.nil_append]
    have shbI := hbI.size
    simp only [drew_size] at shbI
    replace hw := hw.trans (hbI.mono hw.size)
    replace f := f.u hbI
    replace f8 := f8.u hbI
    replace f12 := f12.u hbI
    replace f1 := f1.u hbI
    replace f2 := f2.u hbI
    have hw1 := Below.refl wI.heap.size wI
    refine wl_litB [] Tryz.u8 Tryz.sizeOf5 Tryz.zeroValue5 (by rfl) rfl rfl (by rfl) (by rfl) (by rfl) ?_
    rintro A23 w23 f23 b23
    have qf23 := f23.cap
    have s23 := b23.size
    replace hw := hw.trans (b23.mono hw.size)
    replace hw1 := hw1.trans (b23.mono hw1.size)
    replace f2 := f2.u b23
    replace f1 := f1.u b23
    replace f12 := f12.u b23
    replace f8 := f8.u b23
    replace f := f.u b23
    exact hk [_] _ ⟨_, rfl, f23⟩ hw1
   ·intro wI hbI fo T T2 n2
    rintro _ lo0 hi0 ⟨A23, rfl, f23⟩ ql0 qm0 qh0 -
    try dsimp only at ql0 qm0 qh0 
    try simp only [drew_size] at ql0 qm0 qh0 
    intro hk
    dsimp only [Item.idx, inOrder, nthOp, List.map, List.zip_cons_cons, List.zip_nil_right, List.cons_append, List.nil_append]
    have shbI := hbI.size
    simp only [drew_size] at shbI
    replace hw := hw.trans (hbI.mono hw.size)
    replace f := f.u hbI
    replace f8 := f8.u hbI
    replace f12 := f12.u hbI
    replace f1 := f1.u hbI
    replace f2 := f2.u hbI
    have hw1 := Below.refl wI.heap.size wI
    refine wl_appB01 rfl f23 rfl r1 hw rfl (by omega) (by omega) ?_
    rintro A30 c30 w30 f30 b30
    have qf30 := f30.cap
    have s30 := b30.size
    replace hw := hw.trans (b30.mono hw.size)
    replace hw1 := hw1.trans (b30.mono hw1.size)
    replace f2 := f2.u b30
    replace f1 := f1.u b30
    replace f12 := f12.u b30
    replace f8 := f8.u b30
    replace f := f.u b30
    replace f23 := f23.u b30
    exact hk [_] _ ⟨_, _, rfl, f30.to_RdT, f30.cap, own_max f30⟩ hw1
   ·intro wI hbI fo T T2 n2
    intro hk
    dsimp only [Item.idx, inOrder, nthOp, List.map, List.zip_cons_cons, List.zip_nil_right, List.cons_append, List.nil_append]
    have shbI := hbI.size
    simp only [drew_size] at shbI
    replace hw := hw.trans (hbI.mono hw.size)
    replace f := f.u hbI
    replace f8 := f8.u hbI
    replace f12 := f12.u hbI
    replace f1 := f1.u hbI
    replace f2 := f2.u hbI
    have hw1 := Below.refl wI.heap.size wI
    refine wl_litB [] Tryz.u8 Tryz.sizeOf5 Tryz.zeroValue5 (by rfl) rfl rfl (by rfl) (by rfl) (by rfl) ?_
    rintro A31 w31 f31 b31
    have qf31 := f31.cap
    have s31 := b31.size
    replace hw := hw.trans (b31.mono hw.size)
    replace hw1 := hw1.trans (b31.mono hw1.size)
    replace f2 := f2.u b31
    replace f1 := f1.u b31
    replace f12 := f12.u b31
    replace f8 := f8.u b31
    replace f := f.u b31
    exact hk [_] _ ⟨_, rfl, f31⟩ hw1
   intro wE hbE
   rintro _ lo0 hi0 ⟨A23, rfl, f23⟩ ql0 qm0 qh0 -
   rintro _ lo1 hi1 ⟨A30, c30, rfl, f30, f30_1, f30_2⟩ ql1 qm1 qh1 ⟨qa1_0, -⟩
   rintro _ lo2 hi2 ⟨A31, rfl, f31⟩ ql2 qm2 qh2 ⟨qa2_1, qa2_0, -⟩
   try dsimp only at ql0 qm0 qh0  ql1 qm1 qh1 qa1_0 ql2 qm2 qh2 qa2_0 qa2_1
   try simp only [drew_size] at ql0 qm0 qh0  ql1 qm1 qh1 qa1_0 ql2 qm2 qh2 qa2_0 qa2_1
   dsimp only [given, Item.idx, inOrder, nthOp, List.map, List.zip_cons_cons, List.zip_nil_right]
   have shbE_1 := hbE.size
   simp only [drew_size] at shbE_1
   replace hw := hw.trans (hbE.mono hw.size)
   replace fo := fo.u hbE
   replace f := f.u hbE
   replace f8 := f8.u hbE
   replace f12 := f12.u hbE
   replace f1 := f1.u hbE
   replace f2 := f2.u hbE
   refine wl_appB01 rfl f31 rfl r2 hw rfl (by omega) (by omega) ?_
   rintro A38 c38 w38 f38 b38
   have qf38 := f38.cap
   have s38 := b38.size
   replace hw := hw.trans (b38.mono hw.size)
   replace f2 := f2.u b38
   replace f1 := f1.u b38
   replace f12 := f12.u b38
   replace f8 := f8.u b38
   replace f := f.u b38
   replace fo := fo.u b38
   replace f31 := f31.u b38
   replace f30 := f30.u b38
   replace f23 := f23.u b38
   refine wl_p (fun _ => (o_buildg [_, _] Tryz.underlying94 Tryz.zeroValue94 (by rfl) (by rfl) rfl (by rfl) (by rfl) (fun _ => by kernel_rfl))) ?_
   have m38 := own_max f38
   refine wl_litItm (by rfl) rfl f30 f38.to_RdT rfl rfl (by omega) (by omega) (by omega) (by omega) (by rfl) ?_
   rintro A40 w40 f40 b40
   have qf40 := f40.cap
   have s40 := b40.size
   replace hw := hw.trans (b40.mono hw.size)
   replace f23 := f23.u b40
   replace f30 := f30.u b40
   replace f31 := f31.u b40
   replace fo := fo.u b40
   replace f := f.u b40
   replace f8 := f8.u b40
   replace f12 := f12.u b40
   replace f1 := f1.u b40
   replace f2 := f2.u b40
   replace f38 := f38.u b40
   refine wl_appItm rfl fo rfl rfl f40.to_RIT (by rfl) (by omega) (by omega) ?_
   rintro A41 c41 w41 f41 g41 b41
   have qf41 := f41.cap
   have s41 := g41.size
   replace hw := hw.trans (b41.mono (by omega))
   replace f38 := f38.y g41 (by decide)
   replace f2 := f2.y g41 (by decide)
   replace f1 := f1.y g41 (by decide)
   replace f12 := f12.y g41 (by decide)
   replace f8 := f8.y g41 (by decide)
   replace f := f.y g41 (by decide)
   replace f31 := f31.y g41 (by decide)
   replace f30 := f30.y g41 (by decide)
   replace f23 := f23.y g41 (by decide)
   replace f40 := f40.q g41 (fo.ap (by omega)) (by decide)
   clear fo
   refine wl_p (fun _ => o_faddr (s := 31) (i := 0) (off := 0) Tryz.underlying31 rfl Tryz.sizeOf28 rfl rfl rfl) ?_
   refine wl_storeg1 Tryz.sizeOf28 rfl rfl (by rfl) f (by simp) ?_
   rintro w_2 f_1 g_1 e_2
   have s_1 := g_1.size
   replace hw := hw.trans (below_of_grownBy g_1.g hw.size (by omega))
   replace f40 := f40.y g_1 (by decide)
   replace f23 := f23.k g_1.g (ap_some (by omega))
   replace f30 := f30.y g_1 (by decide)
   replace f31 := f31.k g_1.g (ap_some (by omega))
   replace f8 := f8.y g_1 (by decide)
   replace f12 := f12.y g_1 (by decide)
   replace f1 := f1.k g_1.g (ap_some (by omega))
   replace f2 := f2.k g_1.g (ap_some (by omega))
   replace f38 := f38.k g_1.g (ap_some (by omega))
   replace f41 := f41.y g_1 (by decide)
   clear f
   refine wl_nild ?_
   refine rk_blk ?_
   refine rk_region ?_
   refine wl_p (fun _ => o_move rfl) ?_
   refine wl_p (fun _ => o_add rfl rfl (by omega) (by omega)) ?_
   refine wl_p (fun _ => o_assign rfl) ?_
   refine wl_nil ?_
   exact rk_againf (Fr.le_of (by kernel_rfl) (by kernel_rfl) (by repeat' constructor)) ⟨i + 1, (i : Int) + 1, A41, c41, J ++ [(I[i].1, I[i].2)], rfl, by omega, by omega, rfl, by rw [hJ, List.take_succ_eq_append_getElem hil], f41.base (by omega) (by omega), by assumption, ⟨f8, f12⟩, f1, f2, by omega, hw⟩ (by omega)
  ·refine rk_seq ?_
   refine rk_seq ?_
   refine rk_region ?_
   refine wl_p (fun _ => o_move rfl) ?_
   refine wl_p (fun _ => o_faddr (s := 31) (i := 0) (off := 0) Tryz.underlying31 rfl Tryz.sizeOf28 rfl rfl rfl) ?_
   refine wl_r (o_loadbg Tryz.isAgg28 rfl f1 (by rfl)) ?_
   refine wl_p (fun _ => o_len (t := 28) Tryz.underlying28 rfl) ?_
   refine wl_p (fun _ => o_lt rfl rfl) ?_
   refine wl_nil ?_
   refine rk_if rfl (fun h18 => absurd h18 (by omega)) (fun h18 => ?_)
   refine rk_exit rfl ?_
   obtain rfl : i = I.length := by omega
   rw [List.take_length] at hJ
   subst hJ
   exact rk_tof hj (Fr.le_of (by kernel_rfl) (by kernel_rfl) (by repeat' constructor)) ⟨A', c', rfl, fo.base (by omega) (Nat.le_refl _), f, ⟨f8, f12⟩, f1, f2, hsz, hw⟩
 clear hw f12 f12_1 f f1 f2 f8 f9 f5
 rintro fr V2 ⟨A', c', rfl, fo, f, ⟨f8, f12⟩, f1, f2, hsz, hw⟩
 have shw := hw.size
 first | refine rk_frame (by simp only [List.cons_append, List.nil_append, List.drop_succ_cons, List.drop_zero]; rfl) ?_ | refine wl_frame (by simp only [List.cons_append, List.nil_append, List.drop_succ_cons, List.drop_zero]; rfl) ?_
 refine rk_seq ?_
 refine rk_region ?_
 refine wl_r (o_loadag Tryz.isAgg31 Tryz.sizeOf31 rfl f (by rfl)) ?_
 refine wl_storega Tryz.sizeOf31 rfl rfl (by rfl) (oneCell_of (by rfl)) f2 (by rfl) ?_
 rintro w_2 f_1 g_1 e_2
 have s_1 := g_1.size
 replace hw := hw.trans (below_of_grownBy g_1.g hw.size (by omega))
 replace f1 := f1.k g_1.g (ap_some (by omega))
 replace f12 := f12.y g_1 (by decide)
 replace f8 := f8.y g_1 (by decide)
 replace f := f.k g_1.g (ap_some (by omega))
 replace fo := fo.y g_1 (by decide)
 clear f2
 refine wl_nil ?_
 refine ret_cell rfl rfl Tryz.isAgg31 Tryz.sizeOf31 (by assumption) rfl ?_
 exact ⟨_, _, _, _, _, _, rfl, fo.base (by omega) (by omega), f8, f12, by omega, by omega, hw⟩
end Go.Proofs.YtahkeoegbjopfaaGreat
/-
  Walks of the document's answer for chapter 22: a key more, a key less.
-/
namespace Go.Proofs.YtahkeoegbjopfaaGreat
set_option maxRecDepth 100000
open Go.RowKit
theorem RSl.takeF {α : Type} {X : GoT α} {w : World} {A : Option Addr} {L : List α} (h : RSl X w A L) {k : Nat} (hk : k ≤ L.length) : RSl X w A (L.take k) := by
 obtain ⟨xs, h1, h2⟩ := h
 have hl : (L.take k).length = k := by rw [List.length_take]; omega
 refine ⟨xs.take (k * X.sz), by rw [hl]; exact h1.taken hk, fun i hi => ?_⟩
 rw [part_take (by omega), List.getElem_take]
 exact h2 i (by omega)
theorem RSl.dropF {α : Type} {X : GoT α} {w : World} {A : Option Addr} {L : List α} (h : RSl X w A L) {k cap : Nat} (hk : k ≤ L.length) (hc : L.length ≤ cap) : RSl X w (cutA A cap X.sz k) (L.drop k) := by
 obtain ⟨xs, h1, h2⟩ := h
 refine ⟨xs.drop (k * X.sz), by rw [List.length_drop]; exact h1.cutn hk hc rfl, fun i hi => ?_⟩
 rw [List.length_drop] at hi
 rw [part_drop, List.getElem_drop]
 exact h2 (k + i) (by omega)
theorem RKs.takeF {w : World} {A : Option Addr} {L : List Ky} (h : RKs w A L) {k : Nat} (hk : k ≤ L.length) : RKs w A (L.take k) := RSl.takeF h hk
theorem RKs.dropF {w : World} {A : Option Addr} {L : List Ky} (h : RKs w A L) {k cap : Nat} (hk : k ≤ L.length) (hc : L.length ≤ cap) : RKs w (cutA A cap 32 k) (L.drop k) := RSl.dropF h hk hc
theorem filter_cut {L : List Ky} {u : Ky} (hs : IncK L) (hu : u ∈ L) : L.filter (fun x => decide (x ≠ u)) = cutI L (low (L.map Subtype.val) u.1) := by
 obtain ⟨s1, s2⟩ := low_spec hs.srt u.1
 have hhas := (has_eq hs.srt s1 s2).1 (List.mem_map_of_mem hu)
 obtain ⟨hk, h0⟩ := hhas
 rw [List.length_map] at hk
 have hch := cmpL_chain hs.srt
 obtain ⟨k, hkk⟩ : ∃ k, low (L.map Subtype.val) u.1 = k := ⟨_, rfl⟩
 rw [hkk] at s1 s2 hk ⊢
 simp only [hkk, List.getElem_map] at h0
 have hku : L[k] = u := Subtype.ext ((cmpL_zero _ _).1 h0)
 have e : L = L.take k ++ (L[k] :: L.drop (k + 1)) := by rw [← List.drop_eq_getElem_cons hk, List.take_append_drop]
 have h1 : (L.take k).filter (fun x => decide (x ≠ u)) = L.take k := List.filter_eq_self.2 fun x hx => by
  obtain ⟨j, hj, rfl⟩ := List.getElem_of_mem hx
  rw [List.length_take] at hj
  rw [List.getElem_take]
  have := s1 j (by rw [List.length_map]; omega) (by omega)
  rw [List.getElem_map] at this
  exact decide_eq_true fun e => by rw [e, cmpL_self] at this; omega
 have h2 : (L.drop (k + 1)).filter (fun x => decide (x ≠ u)) = L.drop (k + 1) := List.filter_eq_self.2 fun x hx => by
  obtain ⟨j, hj, rfl⟩ := List.getElem_of_mem hx
  rw [List.length_drop] at hj
  rw [List.getElem_drop]
  have := hch (k + 1 + j) k (by rw [List.length_map]; omega) (by omega)
  rw [List.getElem_map, List.getElem_map, hku] at this
  exact decide_eq_true fun e => by rw [e, cmpL_self] at this; omega
 conv => lhs; rw [e]
 rw [List.filter_append, h1, List.filter_cons, if_neg (by simp [hku]), h2]
 rfl
theorem C_r22with {A : Option Addr} {L : List Ky} {u : Ky} {n c : Nat} (w : World) (hA : RKs w A L) (hs : IncK L) (hn : n = L.length) (hc : L.length ≤ c) (hl : L.length ≤ 400000) :
  CallsR Tryz.prog 99 [.slice A n c, .agg (B8 u.1).toArray] w fun v w' => ∃ A' c', v = .slice A' (L.take (low (L.map Subtype.val) u.1) ++ [u] ++ L.drop (low (L.map Subtype.val) u.1)).length c' ∧ RKT w' A' (L.take (low (L.map Subtype.val) u.1) ++ [u] ++ L.drop (low (L.map Subtype.val) u.1)) ∧ Below w.heap.size w w' := by
 subst hn
 obtain ⟨s1, s2⟩ := low_spec hs.srt u.1
 have hlow := low_le (L.map Subtype.val) u.1
 rw [List.length_map] at hlow
 obtain ⟨k, hk⟩ : ∃ k, low (L.map Subtype.val) u.1 = k := ⟨_, rfl⟩
 rw [hk] at s1 s2 hlow ⊢
 refine callsR Tryz.func99 rfl rfl (by kernel_rfl) rfl ?_
 have hw := Below.refl w.heap.size w
 refine rk_seq ?_
 refine rk_region ?_
 refine wl_boxg _ rfl (by rfl) ?_
 rintro g3 w3 f3 b3 i3 i3_1
 have s3 := b3.size
 replace hw := hw.trans (b3.mono hw.size)
 refine wl_p (fun _ => o_assign rfl) ?_
 refine wl_nil ?_
 refine rk_seq ?_
 refine rk_region ?_
 refine wl_p (fun _ => o_assign rfl) ?_
 refine wl_nil ?_
 refine rk_seq ?_
 refine rk_block ?_
 refine rk_joinf (fun fb fr w2 => fr = [(5, .int .i64 (k : Int))] ++ fb.drop 1 ∧ Blk w2 g3 42 (B8 u.1) ∧ Below w.heap.size w w2) ?_ (fun ks hj => ?_)
 rotate_left
 ·refine rk_loopf (fun fb m fr w2 => ∃ (i : Nat) (v : Int), fr = [(5, .int .i64 v)] ++ fb.drop 1 ∧ v = i ∧ i ≤ k ∧ m = k - i ∧ Blk w2 g3 42 (B8 u.1) ∧ Below w.heap.size w w2) (n := k) (Fr.le_of (by kernel_rfl) (by kernel_rfl) (by repeat' constructor)) ⟨0, _, rfl, rfl, by omega, rfl, f3, hw⟩ ?_
  clear hw f3
  rintro m fr w2 ⟨i, v, rfl, rfl, hi, rfl, f3, hw⟩
  have shw := hw.size
  first | refine rk_frame (by simp only [List.cons_append, List.nil_append, List.drop_succ_cons, List.drop_zero]; rfl) ?_ | refine wl_frame (by simp only [List.cons_append, List.nil_append, List.drop_succ_cons, List.drop_zero]; rfl) ?_
  by_cases hil : i < L.length
  ·by_cases h2 : i < k
   ·have h3 := s1 i (by rw [List.length_map]; exact hil) h2
    rw [List.getElem_map] at h3
    refine rk_seq ?_
    refine rk_seq ?_
    refine rk_draw (id := 2) (none) [0, 0, 2, 5, 8, 16, 16, 112, 144, 16, 784, 1040, 2064] [0, 0, 2, 7, 15, 31, 31, 127, 255, 31, 1023, 2047, 4095] 1024 0 [(.p, 0), (.p, 1), (.p, 2), (.p, 3), (.p, 4), (.p, 5), (.p, 6), (.p, 7), (.r, 8), (.r, 9), (.l, 10), (.p, 11), (.p, 12)] (by kernel_rfl) (by kernel_rfl) (by kernel_rfl) (by kernel_rfl) (by kernel_rfl) ?_
    replace hw := hw.drew
    replace f3 := f3.d
    refine wl_p (fun _ => o_move rfl) ?_
    refine wl_p (fun _ => o_move rfl) ?_
    refine wl_p (fun _ => o_len (t := 29) Tryz.underlying29 rfl) ?_
    refine wl_p (fun _ => o_lt rfl rfl) ?_
    refine wl_p (fun _ => o_move rfl) ?_
    refine wl_know 10 true rfl (decide_eq_true (by omega)) ?_
    refine wl_p (fun _ => o_move rfl) ?_
    refine wl_p (fun _ => o_move rfl) ?_
    refine wl_p (fun _ => (o_iaddrA (i) Tryz.underlying29 Tryz.sizeOf42 rfl rfl rfl (hA.some_ (by omega)) (by omega))) ?_
    refine wl_r (o_ldKs rfl hA hw (by omega)) ?_
    refine wl_r (o_ldKyB rfl f3) ?_
    refine wl_call rfl (C_r22Compare _) ?_
    rintro v16 w16 ⟨rfl, b16⟩
    simp only [drew_size] at b16
    have s16 := b16.size
    simp only [drew_size] at s16
    replace hw := hw.trans (b16.mono hw.size)
    replace f3 := f3.u b16
    refine wl_p (fun _ => o_lt rfl rfl) ?_
    refine wl_p (fun _ => o_pick_t rfl rfl) ?_
    refine wl_nild ?_
    refine rk_if rfl (fun h18 => ?_) (fun h18 => h18.elim (by omega))
    refine rk_skip ?_
    refine rk_block ?_
    refine rk_region ?_
    refine wl_p (fun _ => o_move rfl) ?_
    refine wl_p (fun _ => o_add rfl rfl (by omega) (by omega)) ?_
    refine wl_p (fun _ => o_assign rfl) ?_
    refine wl_nil ?_
    refine rk_blk ?_
    exact rk_againf (Fr.le_of (by kernel_rfl) (by kernel_rfl) (by repeat' constructor)) ⟨i + 1, (i : Int) + 1, rfl, by omega, by omega, rfl, f3, hw⟩ (by omega)
   ·have h3 := s2 i (by rw [List.length_map]; exact hil) (by omega)
    rw [List.getElem_map] at h3
    refine rk_seq ?_
    refine rk_seq ?_
    refine rk_draw (id := 2) (none) [0, 0, 2, 5, 8, 16, 16, 112, 144, 16, 784, 1040, 2064] [0, 0, 2, 7, 15, 31, 31, 127, 255, 31, 1023, 2047, 4095] 1024 0 [(.p, 0), (.p, 1), (.p, 2), (.p, 3), (.p, 4), (.p, 5), (.p, 6), (.p, 7), (.r, 8), (.r, 9), (.l, 10), (.p, 11), (.p, 12)] (by kernel_rfl) (by kernel_rfl) (by kernel_rfl) (by kernel_rfl) (by kernel_rfl) ?_
    replace hw := hw.drew
    replace f3 := f3.d
    refine wl_p (fun _ => o_move rfl) ?_
    refine wl_p (fun _ => o_move rfl) ?_
    refine wl_p (fun _ => o_len (t := 29) Tryz.underlying29 rfl) ?_
    refine wl_p (fun _ => o_lt rfl rfl) ?_
    refine wl_p (fun _ => o_move rfl) ?_
    refine wl_know 10 true rfl (decide_eq_true (by omega)) ?_
    refine wl_p (fun _ => o_move rfl) ?_
    refine wl_p (fun _ => o_move rfl) ?_
    refine wl_p (fun _ => (o_iaddrA (i) Tryz.underlying29 Tryz.sizeOf42 rfl rfl rfl (hA.some_ (by omega)) (by omega))) ?_
    refine wl_r (o_ldKs rfl hA hw (by omega)) ?_
    refine wl_r (o_ldKyB rfl f3) ?_
    refine wl_call rfl (C_r22Compare _) ?_
    rintro v16 w16 ⟨rfl, b16⟩
    simp only [drew_size] at b16
    have s16 := b16.size
    simp only [drew_size] at s16
    replace hw := hw.trans (b16.mono hw.size)
    replace f3 := f3.u b16
    refine wl_p (fun _ => o_lt rfl rfl) ?_
    refine wl_p (fun _ => o_pick_t rfl rfl) ?_
    refine wl_nild ?_
    refine rk_if rfl (fun h18 => absurd h18 (by omega)) (fun h18 => ?_)
    refine rk_exit rfl ?_
    obtain rfl : i = k := by omega
    exact rk_tof hj (Fr.le_of (by kernel_rfl) (by kernel_rfl) (by repeat' constructor)) ⟨rfl, f3, hw⟩
  ·refine rk_seq ?_
   refine rk_seq ?_
   refine rk_draw (id := 2) (none) [0, 0, 2, 5, 8, 16, 16, 112, 144, 16, 784, 1040, 2064] [0, 0, 2, 7, 15, 31, 31, 127, 255, 31, 1023, 2047, 4095] 1024 0 [(.p, 0), (.p, 1), (.p, 2), (.p, 3), (.p, 4), (.p, 5), (.p, 6), (.p, 7), (.r, 8), (.r, 9), (.l, 10), (.p, 11), (.p, 12)] (by kernel_rfl) (by kernel_rfl) (by kernel_rfl) (by kernel_rfl) (by kernel_rfl) ?_
   replace hw := hw.drew
   replace f3 := f3.d
   refine wl_p (fun _ => o_move rfl) ?_
   refine wl_p (fun _ => o_move rfl) ?_
   refine wl_p (fun _ => o_len (t := 29) Tryz.underlying29 rfl) ?_
   refine wl_p (fun _ => o_lt rfl rfl) ?_
   refine wl_p (fun _ => o_move rfl) ?_
   refine wl_know 10 false rfl (decide_eq_false (by omega)) ?_
   refine wl_off ?_
   refine wl_off ?_
   refine wl_off ?_
   refine wl_off ?_
   refine wl_off ?_
   refine wl_off ?_
   refine wl_off ?_
   refine wl_p (fun _ => o_pick_f rfl rfl) ?_
   refine wl_nild ?_
   refine rk_false rfl ?_
   refine rk_exit rfl ?_
   obtain rfl : i = k := by omega
   exact rk_tof hj (Fr.le_of (by kernel_rfl) (by kernel_rfl) (by repeat' constructor)) ⟨rfl, f3, hw⟩
 clear hw f3
 rintro fr w2 ⟨rfl, f3, hw⟩
 have shw := hw.size
 have t1 := hA.takeF hlow
 have t2 := hA.dropF hlow hc
 have t3 : (L.take k).length = k := by rw [List.length_take]; omega
 have t4 : (L.drop k).length = L.length - k := by rw [List.length_drop]
 first | refine rk_frame (by simp only [List.cons_append, List.nil_append, List.drop_succ_cons, List.drop_zero]; rfl) ?_ | refine wl_frame (by simp only [List.cons_append, List.nil_append, List.drop_succ_cons, List.drop_zero]; rfl) ?_
 refine rk_seq ?_
 refine rk_drawoB (id := 4) (none) [0, 0, 0, 6, 9, 0, 32, 80, 0, 0, 768, 1152, 4095] [0, 0, 0, 6, 15, 0, 32, 127, 0, 0, 768, 2047, 4095] 2257 17 [1, 2, 3, 5, 8, 9, 10] [(.p, 1), (.p, 2), (.p, 3), (.s, 5), (.p, 8), (.p, 9), (.p, 10), (.f 1838 2257 17, 6)] (by kernel_rfl) (by kernel_rfl) (by kernel_rfl) (by kernel_rfl) (by kernel_rfl) ?_
 dsimp only [inOrder, nthOp]
 replace hw := hw.drew
 replace f3 := f3.d
 refine wl_p (fun _ => o_move rfl) ?_
 refine wl_p (fun _ => o_move rfl) ?_
 refine wl_p (fun _ => (o_slHiG (k) Tryz.underlying29 Tryz.sizeOf42 rfl rfl rfl (by omega))) ?_
 refine wl_s (fun _ hk => (o_ldKyB rfl (f3.u (below_of_ok hk (Nat.le_refl _) (fun _ e => by cases e))))) ?_
 refine wl_p (fun _ => o_move rfl) ?_
 refine wl_p (fun _ => o_move rfl) ?_
 refine wl_p (fun _ => (o_slLoG (k) Tryz.underlying29 Tryz.sizeOf42 rfl rfl rfl (by omega))) ?_
 refine wl_conc [⟨0, [], [21], [], fun vs w' lo hi => ∃ (A21 : Option Addr), vs = [.slice A21 0 0] ∧ OwnKs w' lo hi A21 0 []⟩, ⟨4, [], [25], [0], fun vs w' lo hi => ∃ (A25 : Option Addr) (c25 l25 h25 : Nat), vs = [.slice A25 k c25] ∧ OwnKs w' l25 h25 A25 c25 (L.take k) ∧ w2.heap.size ≤ l25 ∧ l25 ≤ hi⟩, ⟨6, [], [27], [], fun vs w' lo hi => ∃ (A27 : Option Addr), vs = [.slice A27 1 1] ∧ RKT w' A27 [u]⟩] [0, 1, 2] [0, 0, 0, 6, 9, 0, 32, 80, 0, 0, 768, 1152, 4095] [0, 0, 0, 6, 15, 0, 32, 127, 0, 0, 768, 2047, 4095] [7, 11, 12] [(.l, 7), (.l, 11), (.p, 12)] (by kernel_rfl) (by kernel_rfl) (by kernel_rfl) (by kernel_rfl) ⟨fun _ _ _ _ _ h hb => by obtain ⟨A21, e0, g0⟩ := h; exact ⟨A21, e0, g0.u hb⟩, fun _ _ _ _ _ h hb => by obtain ⟨A25, c25, l25, h25, e0, g0, g1, g2⟩ := h; exact ⟨A25, c25, l25, h25, e0, g0.u hb, g1, g2⟩, fun _ _ _ _ _ h hb => by obtain ⟨A27, e0, g0⟩ := h; exact ⟨A27, e0, g0.u hb⟩, trivial⟩ ⟨?_, ?_, ?_, trivial⟩ ?_
 ·intro wI hbI fo T T2 n2
  intro hk
  dsimp only [Item.idx, inOrder, nthOp, List.map, List.zip_cons_cons, List.zip_nil_right, List.cons_append, List.nil_append]
  have shbI := hbI.size
  simp only [drew_size] at shbI
  replace hw := hw.trans (hbI.mono hw.size)
  replace f3 := f3.u hbI
  have hw1 := Below.refl wI.heap.size wI
  refine wl_litKs0 (by rfl) rfl (by rfl) ?_
  rintro A21 w21 f21 b21
  have qf21 := f21.cap
  have s21 := b21.size
  replace hw := hw.trans (b21.mono hw.size)
  replace hw1 := hw1.trans (b21.mono hw1.size)
  replace f3 := f3.u b21
  exact hk [_] _ ⟨_, rfl, f21⟩ hw1
 ·intro wI hbI fo T T2 n2
  rintro _ lo0 hi0 ⟨A21, rfl, f21⟩ ql0 qm0 qh0 -
  try dsimp only at ql0 qm0 qh0 
  try simp only [drew_size] at ql0 qm0 qh0 
  intro hk
  dsimp only [Item.idx, inOrder, nthOp, List.map, List.zip_cons_cons, List.zip_nil_right, List.cons_append, List.nil_append]
  have shbI := hbI.size
  simp only [drew_size] at shbI
  replace hw := hw.trans (hbI.mono hw.size)
  replace f3 := f3.u hbI
  have hw1 := Below.refl wI.heap.size wI
  refine wl_appKs0 rfl f21 rfl t1 hw (by omega) (by omega) (by omega) ?_
  rintro A25 c25 w25 f25 b25
  have qf25 := f25.cap
  have s25 := b25.size
  replace hw := hw.trans (b25.mono hw.size)
  replace hw1 := hw1.trans (b25.mono hw1.size)
  replace f3 := f3.u b25
  replace f21 := f21.u b25
  rw [t3]
  exact hk [_] _ ⟨_, _, _, _, rfl, f25, by omega, by omega⟩ hw1
 ·intro wI hbI fo T T2 n2
  intro hk
  dsimp only [Item.idx, inOrder, nthOp, List.map, List.zip_cons_cons, List.zip_nil_right, List.cons_append, List.nil_append]
  have shbI := hbI.size
  simp only [drew_size] at shbI
  replace hw := hw.trans (hbI.mono hw.size)
  replace f3 := f3.u hbI
  have hw1 := Below.refl wI.heap.size wI
  refine wl_litKs1 (by rfl) rfl (by rfl) ?_
  rintro A27 w27 f27 b27
  have qf27 := f27.cap
  have s27 := b27.size
  replace hw := hw.trans (b27.mono hw.size)
  replace hw1 := hw1.trans (b27.mono hw1.size)
  replace f3 := f3.u b27
  exact hk [_] _ ⟨_, rfl, f27.to_RKT⟩ hw1
 intro wE hbE
 rintro _ lo0 hi0 ⟨A21, rfl, f21⟩ ql0 qm0 qh0 -
 rintro _ lo1 hi1 ⟨A25, c25, l25, h25, rfl, f25, f25_1, f25_2⟩ ql1 qm1 qh1 ⟨qa1_0, -⟩
 rintro _ lo2 hi2 ⟨A27, rfl, f27⟩ ql2 qm2 qh2 ⟨qa2_1, qa2_0, -⟩
 try dsimp only at ql0 qm0 qh0  ql1 qm1 qh1 qa1_0 ql2 qm2 qh2 qa2_0 qa2_1
 try simp only [drew_size] at ql0 qm0 qh0  ql1 qm1 qh1 qa1_0 ql2 qm2 qh2 qa2_0 qa2_1
 dsimp only [given, Item.idx, inOrder, nthOp, List.map, List.zip_cons_cons, List.zip_nil_right]
 have shbE := hbE.size
 simp only [drew_size] at shbE
 replace hw := hw.trans (hbE.mono hw.size)
 replace f3 := f3.u hbE
 refine wl_appKs rfl f25 (by omega) rfl f27 (by rfl) (by simp; omega) (by omega) ?_
 rintro A28 c28 w28 f28 g28 b28
 have qf28 := f28.cap
 have s28 := g28.size
 replace hw := hw.trans (b28.mono (by omega))
 clear f3
 clear f27
 clear f25
 clear f21
 refine wl_appKsR rfl f28 rfl rfl t2 hw (by omega) (by simp; omega) (by omega) ?_
 rintro A32 c32 w32 f32 g32 b32
 have qf32 := f32.cap
 have s32 := g32.size
 replace hw := hw.trans (b32.mono (by omega))
 clear f28
 refine wl_p (fun _ => o_assign rfl) ?_
 refine wl_nild ?_
 refine ret1 rfl rfl ?_
 exact ⟨_, _, rfl, f32.to_RKT, hw⟩
theorem C_r22without {A : Option Addr} {L : List Ky} {u : Ky} {n c : Nat} (w : World) (hA : RKs w A L) (hn : n = L.length) (hl : L.length ≤ 400000) :
  CallsR Tryz.prog 100 [.slice A n c, .agg (B8 u.1).toArray] w fun v w' => ∃ A' c', v = .slice A' (L.filter (fun x => decide (x ≠ u))).length c' ∧ RKT w' A' (L.filter (fun x => decide (x ≠ u))) ∧ Below w.heap.size w w' := by
 subst hn
 refine callsR Tryz.func100 rfl rfl (by kernel_rfl) rfl ?_
 have hw := Below.refl w.heap.size w
 refine rk_seq ?_
 refine rk_region ?_
 refine wl_boxg _ rfl (by rfl) ?_
 rintro g3 w3 f3 b3 i3 i3_1
 have s3 := b3.size
 replace hw := hw.trans (b3.mono hw.size)
 refine wl_p (fun _ => o_assign rfl) ?_
 refine wl_nil ?_
 refine rk_seq ?_
 refine rk_region ?_
 refine wl_p (fun _ => o_assign rfl) ?_
 refine wl_nil ?_
 refine rk_seq ?_
 refine rk_seq ?_
 refine rk_region ?_
 refine wl_p (fun _ => o_assign rfl) ?_
 refine wl_nil ?_
 refine rk_block ?_
 have hg30 : w.heap.size ≤ g3 := by omega
 have hg31 := f3.lt
 refine rk_joinf (fun fb fr w2 => ∃ A' c', fr = [(5, .slice A' (L.filter (fun x => decide (x ≠ u))).length c')] ++ fb.drop 2 ∧ RKT w2 A' (L.filter (fun x => decide (x ≠ u))) ∧ Below w.heap.size w w2) ?_ (fun ks hj => ?_)
 rotate_left
 ·refine rk_loopf (fun fb m fr w2 => ∃ (i : Nat) (v : Int) (A' : Option Addr) (c' : Nat) (J : List Ky), fr = [(6, .int .i64 v), (5, .slice A' J.length c')] ++ fb.drop 2 ∧ v = i ∧ i ≤ L.length ∧ m = L.length - i ∧ J = (L.take i).filter (fun x => decide (x ≠ u)) ∧ J.length ≤ i ∧ OwnKs w2 (g3 + 1) w2.heap.size A' c' J ∧ Blk w2 g3 42 (B8 u.1) ∧ Below w.heap.size w w2) (n := L.length) (Fr.le_of (by kernel_rfl) (by kernel_rfl) (by repeat' constructor)) ⟨0, _, none, 0, [], rfl, rfl, by omega, rfl, by simp, by simp, OwnKs.nil_, f3, hw⟩ ?_
  clear hw f3
  rintro m fr w2 ⟨i, v, A', c', J, rfl, rfl, hi, rfl, hJ, hJl, fo, f3, hw⟩
  have shw := hw.size
  have hg32 := f3.lt
  first | refine rk_frame (by simp only [List.cons_append, List.nil_append, List.drop_succ_cons, List.drop_zero]; rfl) ?_ | refine wl_frame (by simp only [List.cons_append, List.nil_append, List.drop_succ_cons, List.drop_zero]; rfl) ?_
  by_cases hil : i < L.length
  ·have hnx : (L.take (i + 1)).filter (fun x => decide (x ≠ u)) = J ++ (if L[i] ≠ u then [L[i]] else []) := by
    rw [List.take_succ_eq_append_getElem hil, List.filter_append, ← hJ]
    by_cases h : L[i] = u <;> simp [h]
   refine rk_seq ?_
   refine rk_seq ?_
   refine rk_region ?_
   refine wl_p (fun _ => o_move rfl) ?_
   refine wl_p (fun _ => o_move rfl) ?_
   refine wl_p (fun _ => o_len (t := 29) Tryz.underlying29 rfl) ?_
   refine wl_p (fun _ => o_lt rfl rfl) ?_
   refine wl_nil ?_
   refine rk_if rfl (fun h10 => ?_) (fun h10 => h10.elim (by omega))
   refine rk_skip ?_
   refine rk_seq ?_
   refine rk_block ?_
   refine rk_seq ?_
   refine rk_draw (id := 5) (none) [0, 0, 3, 4, 0, 24] [0, 0, 3, 7, 0, 31] 0 0 [(.p, 0), (.p, 1), (.p, 2), (.r, 3), (.r, 4), (.p, 5)] (by kernel_rfl) (by kernel_rfl) (by kernel_rfl) (by kernel_rfl) (by kernel_rfl) ?_
   replace hw := hw.drew
   replace f3 := f3.d
   replace fo := fo.d
   refine wl_p (fun _ => o_move rfl) ?_
   refine wl_p (fun _ => o_move rfl) ?_
   refine wl_p (fun _ => (o_iaddrA (i) Tryz.underlying29 Tryz.sizeOf42 rfl rfl rfl (hA.some_ (by omega)) (by omega))) ?_
   refine wl_r (o_ldKs rfl hA hw (by omega)) ?_
   refine wl_r (o_ldKyB rfl f3) ?_
   refine wl_p (fun _ => (o_neKy rfl rfl)) ?_
   refine wl_nild ?_
   refine rk_if rfl (fun h18 => ?_) (fun h18 => ?_)
   ·rw [if_pos (by assumption)] at hnx
    refine rk_region ?_
    refine wl_p (fun _ => o_move rfl) ?_
    refine wl_p (fun _ => o_move rfl) ?_
    refine wl_p (fun _ => o_move rfl) ?_
    refine wl_p (fun _ => (o_iaddrA (i) Tryz.underlying29 Tryz.sizeOf42 rfl rfl rfl (hA.some_ (by omega)) (by omega))) ?_
    refine wl_r (o_ldKs rfl hA hw (by omega)) ?_
    refine wl_litKs1 (by rfl) rfl (by rfl) ?_
    rintro A24 w24 f24 b24
    simp only [drew_size] at f24
    simp only [drew_size] at b24
    have qf24 := f24.cap
    have s24 := b24.size
    simp only [drew_size] at s24
    replace hw := hw.trans (b24.mono hw.size)
    replace fo := fo.u b24
    replace f3 := f3.u b24
    refine wl_appKs rfl fo rfl rfl f24.to_RKT (by rfl) (by omega) (by omega) ?_
    rintro A25 c25 w25 f25 g25 b25
    have qf25 := f25.cap
    have s25 := g25.size
    replace hw := hw.trans (b25.mono (by omega))
    replace f3 := f3.k g25.g (fo.ap (by omega))
    replace f24 := f24.q g25 (fo.ap (by omega)) (by decide)
    clear fo
    refine wl_p (fun _ => o_assign rfl) ?_
    refine wl_nil ?_
    refine rk_blk ?_
    refine rk_region ?_
    refine wl_p (fun _ => o_move rfl) ?_
    refine wl_p (fun _ => o_add rfl rfl (by omega) (by omega)) ?_
    refine wl_p (fun _ => o_assign rfl) ?_
    refine wl_nil ?_
    exact rk_againf (Fr.le_of (by kernel_rfl) (by kernel_rfl) (by repeat' constructor)) ⟨i + 1, (i : Int) + 1, A25, c25, J ++ [L[i]], rfl, by omega, by omega, rfl, hnx.symm, by simp; omega, f25.base (by omega) (by omega), by assumption, hw⟩ (by omega)
   ·rw [if_neg (by assumption), List.append_nil] at hnx
    refine rk_skip ?_
    refine rk_blk ?_
    refine rk_region ?_
    refine wl_p (fun _ => o_move rfl) ?_
    refine wl_p (fun _ => o_add rfl rfl (by omega) (by omega)) ?_
    refine wl_p (fun _ => o_assign rfl) ?_
    refine wl_nil ?_
    exact rk_againf (Fr.le_of (by kernel_rfl) (by kernel_rfl) (by repeat' constructor)) ⟨i + 1, (i : Int) + 1, A', c', J, rfl, by omega, by omega, rfl, hnx.symm, by omega, by assumption, f3, hw⟩ (by omega)
  ·refine rk_seq ?_
   refine rk_seq ?_
   refine rk_region ?_
   refine wl_p (fun _ => o_move rfl) ?_
   refine wl_p (fun _ => o_move rfl) ?_
   refine wl_p (fun _ => o_len (t := 29) Tryz.underlying29 rfl) ?_
   refine wl_p (fun _ => o_lt rfl rfl) ?_
   refine wl_nil ?_
   refine rk_if rfl (fun h10 => absurd h10 (by omega)) (fun h10 => ?_)
   refine rk_exit rfl ?_
   obtain rfl : i = L.length := by omega
   rw [List.take_length] at hJ
   subst hJ
   exact rk_tof hj (Fr.le_of (by kernel_rfl) (by kernel_rfl) (by repeat' constructor)) ⟨_, _, rfl, fo.to_RKT, hw⟩
 clear hw f3
 rintro fr w2 ⟨A', c', rfl, fo, hw⟩
 first | refine rk_frame (by simp only [List.cons_append, List.nil_append, List.drop_succ_cons, List.drop_zero]; rfl) ?_ | refine wl_frame (by simp only [List.cons_append, List.nil_append, List.drop_succ_cons, List.drop_zero]; rfl) ?_
 refine rk_seq ?_
 refine rk_region ?_
 refine wl_p (fun _ => o_move rfl) ?_
 refine wl_p (fun _ => o_assign rfl) ?_
 refine wl_nil ?_
 refine ret1 rfl rfl ?_
 exact ⟨_, _, rfl, fo, hw⟩
end Go.Proofs.YtahkeoegbjopfaaGreat
/-
  Walks of the document's answer for chapter 1: its reader (as OctF, on OctV).
-/
namespace Go.Proofs.YtahkeoegbjopfaaGreat
set_option maxRecDepth 100000
open Go.RowKit

def Rfr (w : World) (g : Nat) (s : RS) : Prop :=
 ∃ B cap A c l, Blk w g 132 [.slice B s.1.length cap, .int .i64 s.2] ∧ Rd w B s.1 ∧ s.1.length ≤ cap ∧ s.1.length ≤ 140737488355328 ∧ Own w 0 A c l ∧ blk B = blk A ∧ s.2 ≤ 100
theorem Rfr.below {w w' : World} {g : Nat} {s : RS} (h : Rfr w g s) (hb : Below w.heap.size w w') : Rfr w' g s := by
 obtain ⟨B, cap, A, c, l, hB, hr, h1, h2, ho, h3⟩ := h
 exact ⟨B, cap, A, c, l, hB.under hb, hr.below hb, h1, h2, ho.below hb, h3⟩
theorem Rfr.drew {w : World} {g : Nat} {s : RS} (h : Rfr w g s) : Rfr w.drew g s := h
theorem Rfr.blk {w : World} {g : Nat} {s : RS} (h : Rfr w g s) : ∃ cs, Blk w g 132 cs := by
 obtain ⟨B, cap, A, c, l, hB, -⟩ := h
 exact ⟨_, hB⟩
theorem Rfr.lt {w : World} {g : Nat} {s : RS} (h : Rfr w g s) : g < w.heap.size := h.blk.choose_spec.lt
theorem Rfr.grown {w w' : World} {g k t : Nat} {cs : List Value} {s : RS} (h : Rfr w g s) (hg : w.grownBy w' (some k)) (hK : Blk w k t cs) (ht : t ≠ 5) (hk : k ≠ g) : Rfr w' g s := by
 obtain ⟨B, cap, A, c, l, hB, hr, h1, h2, ho, h3, h4⟩ := h
 have hA := ho.ne hK ht
 exact ⟨B, cap, A, c, l, hB.grown hg (by intro e; injection e with e; exact hk e.symm), hr.grown hg (.inr (by rw [h3]; exact hA)), h1, h2, ho.kept hg (.inr hA), h3, h4⟩

theorem Tryz.build_RefReader (A : Option Addr) (n c : Nat) (w : World) : (Instr.build 132 ([0].zip [Value.slice A n c]).toArray).run Tryz.prog w = .ok (.agg #[.slice A n c, .int .i64 0]) w := by kernel_rfl

theorem C_refRead {A : Option Addr} {l : List UInt8} {k : Nat} (c : Nat) (hk : k = l.length) (w : World) (hr : Rd w A l) (hl : l.length ≤ 140737488355328) :
  CallsR Tryz.prog 92 [.slice A k c] w fun v w' => ∃ g, v = .pointer (some ⟨g, 0, none⟩) ∧ w.heap.size ≤ g ∧ Rfr w' g (l, 0) ∧ Below w.heap.size w w' := by
 refine callsR Tryz.func92 rfl rfl (by kernel_rfl) rfl ?_
 refine rk_seq ?_
 refine rk_region ?_
 refine wl_p (fun _ => o_assign rfl) ?_
 refine wl_nil ?_
 refine rk_seq ?_
 refine rk_region ?_
 refine wl_lit8 (xs := []) [] Tryz.u8 Tryz.sizeOf5 Tryz.zeroValue5 rfl rfl ?_
 intro w1 hown1 hb1 hz1
 refine wl_p (fun _ => o_move rfl) ?_
 refine wl_app (s := []) Tryz.u8 rfl rfl hown1 rfl hk (hr.below hb1) (by simpa using hl) hb1.size ?_
 intro A5 c5 w5 hown5 hg5 hk5 hb5
 rw [List.nil_append] at hown5 ⊢
 refine wl_p (fun _ => o_build (is := [0]) (xs := [.tmp 5]) rfl (fun _ => Tryz.build_RefReader _ _ _ _)) ?_
 refine wl_box [.slice A5 l.length c5, .int .i64 0] rfl rfl ?_
 intro w6 hB6 hb6 hz6
 refine wl_p (fun _ => o_assign rfl) ?_
 refine wl_nil ?_
 refine ret1 rfl rfl ?_
 have hlt := hown5.lt
 have hs5 := hb5.size
 have hs1 := hb1.size
 have hc5 : l.length ≤ c5 := by
  rcases hown5.2 with ⟨h1, h2⟩ | ⟨g', cap, cur, h1, h2, h3, h4, h5⟩
  ·omega
  ·injection h1 with _ _ h1; omega
 exact ⟨w5.heap.size, rfl, by omega, ⟨A5, c5, A5, c5, l, hB6, hown5.rd.below hb6, hc5, hl, (hown5.below hb6).base (by omega), rfl, by simp⟩, hb1.trans (hb5.trans (hb6.mono (by omega)))⟩

theorem C_refTake {g : Nat} {s : RS} (n : Int) (w : World) (hR : Rfr w g s) (hn : n ≤ 9223372036854775807) :
  CallsR Tryz.prog 129 [.pointer (some ⟨g, 0, none⟩), .int .i64 n] w fun v w' => (∃ A' c', v = .slice A' (rTake n.toNat s).1.length c' ∧ Own w' w.heap.size A' c' (rTake n.toNat s).1) ∧ w.grownBy w' (some g) ∧ Rfr w' g (rTake n.toNat s).2 := by
 have hR0 := hR
 obtain ⟨B, cap, A, c, l, hB, hr, h1, h2, ho, h3, h4⟩ := hR
 obtain ⟨x, e⟩ := s
 simp only at hB hr h1 h2 h4
 have hm : max n 0 = (n.toNat : Int) := by omega
 have hA := ho.ne hB (by decide)
 refine callsR Tryz.func129 rfl rfl (by kernel_rfl) rfl ?_
 refine rk_seq ?_
 refine rk_region ?_
 refine wl_p (fun _ => o_assign rfl) ?_
 refine wl_nil ?_
 refine rk_seq ?_
 refine rk_region ?_
 refine wl_p (fun _ => o_move rfl) ?_
 refine wl_p (fun _ => o_max rfl rfl) ?_
 refine wl_p (fun _ => o_assign rfl) ?_
 refine wl_nil ?_
 refine rk_seq ?_
 refine rk_seq ?_
 refine rk_region ?_
 refine wl_p (fun _ => o_move rfl) ?_
 refine wl_p (fun _ => o_nil rfl) ?_
 refine wl_p (fun _ => o_faddr (s := 132) (i := 1) (off := 1) Tryz.underlying132 rfl Tryz.sizeOf36 rfl rfl rfl) ?_
 refine wl_r (o_loadb (t := 36) Tryz.isAgg36 rfl hB (by rfl)) ?_
 refine wl_p (fun _ => o_eq rfl rfl) ?_
 refine wl_p (fun _ => o_move rfl) ?_
 refine wl_bool 13 rfl (fun h13 => ?_) (fun h13 => ?_)
 ·have he : e = 0 := by have := of_decide_eq_true h13; omega
  subst he
  refine wl_p (fun _ => o_move rfl) ?_
  refine wl_p (fun _ => o_nil rfl) ?_
  refine wl_p (fun _ => o_faddr (s := 132) (i := 0) (off := 0) Tryz.underlying132 rfl Tryz.sizeOf39 rfl rfl rfl) ?_
  refine wl_r (o_loadb (t := 39) Tryz.isAgg39 rfl hB (by rfl)) ?_
  refine wl_p (fun _ => o_len (t := 39) Tryz.underlying39 rfl) ?_
  refine wl_p (fun _ => o_move rfl) ?_
  refine wl_p (fun _ => o_lt rfl rfl) ?_
  refine wl_p (fun _ => o_pick_t rfl rfl) ?_
  refine wl_nil ?_
  refine rk_if rfl (fun h => ?_) (fun h => ?_)
  ·rw [hm] at h
   have e1 : rTake n.toNat (x, 0) = ([], (x, 5)) := by unfold rTake; rw [if_neg (by simp), if_pos (by show x.length < n.toNat; omega)]
   rw [e1]
   refine rk_region ?_
   refine wl_p (fun _ => o_move rfl) ?_
   refine wl_p (fun _ => o_nil rfl) ?_
   refine wl_p (fun _ => o_faddr (s := 132) (i := 1) (off := 1) Tryz.underlying132 rfl Tryz.sizeOf36 rfl rfl rfl) ?_
   refine wl_store1 Tryz.sizeOf36 rfl rfl rfl hB (by simp) ?_
   intro w1 hB1 hg1 hz1
   refine wl_nil ?_
   refine rk_seq ?_
   refine rk_seq ?_
   refine rk_region ?_
   refine wl_p (fun _ => o_move rfl) ?_
   refine wl_p (fun _ => o_nil rfl) ?_
   refine wl_p (fun _ => o_faddr (s := 132) (i := 1) (off := 1) Tryz.underlying132 rfl Tryz.sizeOf36 rfl rfl rfl) ?_
   refine wl_r (o_loadb (t := 36) Tryz.isAgg36 rfl hB1 (by rfl)) ?_
   refine wl_p (fun _ => o_ne rfl rfl) ?_
   refine wl_nil ?_
   refine rk_true rfl ?_
   refine rk_seq ?_
   refine rk_region ?_
   refine wl_p (fun _ => o_assign rfl) ?_
   refine wl_nil ?_
   refine ret1 rfl rfl ?_
   exact ⟨⟨none, 0, rfl, Own.nil _ _⟩, hg1, B, cap, A, c, l, hB1, hr.grown hg1 (.inr (by rw [h3]; exact hA)), h1, h2, ho.kept hg1 (.inr hA), h3, by simp⟩
  ·rw [hm] at h
   have hle : n.toNat ≤ x.length := by omega
   have e1 : rTake n.toNat (x, 0) = (x.take n.toNat, (x.drop n.toNat, 0)) := by unfold rTake; rw [if_neg (by simp), if_neg (by show ¬ x.length < n.toNat; omega)]
   rw [e1]
   refine rk_skip ?_
   refine rk_seq ?_
   refine rk_seq ?_
   refine rk_region ?_
   refine wl_p (fun _ => o_move rfl) ?_
   refine wl_p (fun _ => o_nil rfl) ?_
   refine wl_p (fun _ => o_faddr (s := 132) (i := 1) (off := 1) Tryz.underlying132 rfl Tryz.sizeOf36 rfl rfl rfl) ?_
   refine wl_r (o_loadb (t := 36) Tryz.isAgg36 rfl hB (by rfl)) ?_
   refine wl_p (fun _ => o_ne rfl rfl) ?_
   refine wl_nil ?_
   refine rk_false rfl ?_
   refine rk_skip ?_
   refine rk_seq ?_
   refine rk_region ?_
   refine wl_p (fun _ => o_move rfl) ?_
   refine wl_p (fun _ => o_nil rfl) ?_
   refine wl_p (fun _ => o_faddr (s := 132) (i := 0) (off := 0) Tryz.underlying132 rfl Tryz.sizeOf39 rfl rfl rfl) ?_
   refine wl_r (o_loadb (t := 39) Tryz.isAgg39 rfl hB (by rfl)) ?_
   refine wl_p (fun _ => o_move rfl) ?_
   refine wl_p (fun _ => o_slice_hi Tryz.underlying39 Tryz.sizeOf5 rfl rfl hm (by omega)) ?_
   refine wl_p (fun _ => o_assign rfl) ?_
   refine wl_nil ?_
   refine rk_seq ?_
   refine rk_region ?_
   refine wl_p (fun _ => o_move rfl) ?_
   refine wl_p (fun _ => o_move rfl) ?_
   refine wl_p (fun _ => o_nil rfl) ?_
   refine wl_p (fun _ => o_faddr (s := 132) (i := 0) (off := 0) Tryz.underlying132 rfl Tryz.sizeOf39 rfl rfl rfl) ?_
   refine wl_r (o_loadb (t := 39) Tryz.isAgg39 rfl hB (by rfl)) ?_
   refine wl_p (fun _ => o_move rfl) ?_
   refine wl_p (fun _ => o_slice_lo Tryz.underlying39 Tryz.sizeOf5 rfl rfl hm hle) ?_
   refine wl_p (fun _ => o_nil rfl) ?_
   refine wl_p (fun _ => o_faddr (s := 132) (i := 0) (off := 0) Tryz.underlying132 rfl Tryz.sizeOf39 rfl rfl rfl) ?_
   refine wl_store1 Tryz.sizeOf39 rfl rfl rfl hB (by simp) ?_
   intro w1 hB1 hg1 hz1
   refine wl_nil ?_
   refine rk_seq ?_
   refine rk_region ?_
   have hr1 := hr.grown hg1 (.inr (by rw [h3]; exact hA))
   refine wl_lit8 (xs := []) [] Tryz.u8 Tryz.sizeOf5 Tryz.zeroValue5 rfl rfl ?_
   intro w2 hown2 hb2 hz2
   refine wl_p (fun _ => o_move rfl) ?_
   refine wl_app (s := []) (m := x.take n.toNat) Tryz.u8 rfl rfl hown2 rfl (by simp; omega) ((hr1.take hle).below hb2) (by simp; omega) hb2.size ?_
   intro A5 c5 w5 hown5 hg5 hk5 hb5
   rw [List.nil_append] at hown5 ⊢
   refine wl_p (fun _ => o_assign rfl) ?_
   refine wl_nil ?_
   refine ret1 rfl rfl ?_
   have hb := hb2.trans hb5
   have hl : (x.drop n.toNat).length = x.length - n.toNat := by simp
   refine ⟨⟨A5, c5, rfl, hown5.base (by rw [hz1]; exact Nat.le_refl _)⟩, grownBy_trans hg1 (grownBy_of_below hb _), ?_⟩
   exact ⟨cutA B cap 1 n.toNat, cap - n.toNat, A, c, l, by rw [hl]; exact hB1.under hb, (hr1.cut hle h1).below hb, by rw [hl]; omega, by rw [hl]; omega, (ho.kept hg1 (.inr hA)).below hb, by rw [blk_cutA]; exact h3, by simp⟩
 ·have he : e ≠ 0 := by intro h0; subst h0; exact absurd h13 (by decide)
  have e1 : rTake n.toNat (x, e) = ([], (x, e)) := by unfold rTake; rw [if_pos he]
  rw [e1]
  refine wl_off ?_
  refine wl_off ?_
  refine wl_off ?_
  refine wl_off ?_
  refine wl_off ?_
  refine wl_off ?_
  refine wl_off ?_
  refine wl_p (fun _ => o_pick_f rfl rfl) ?_
  refine wl_nil ?_
  refine rk_false rfl ?_
  refine rk_skip ?_
  refine rk_seq ?_
  refine rk_seq ?_
  refine rk_region ?_
  refine wl_p (fun _ => o_move rfl) ?_
  refine wl_p (fun _ => o_nil rfl) ?_
  refine wl_p (fun _ => o_faddr (s := 132) (i := 1) (off := 1) Tryz.underlying132 rfl Tryz.sizeOf36 rfl rfl rfl) ?_
  refine wl_r (o_loadb (t := 36) Tryz.isAgg36 rfl hB (by rfl)) ?_
  refine wl_p (fun _ => o_ne rfl rfl) ?_
  refine wl_nil ?_
  refine rk_if rfl (fun h => ?_) (fun h => absurd h (by omega))
  refine rk_seq ?_
  refine rk_region ?_
  refine wl_p (fun _ => o_assign rfl) ?_
  refine wl_nil ?_
  refine ret1 rfl rfl ?_
  exact ⟨⟨none, 0, rfl, Own.nil _ _⟩, World.grownBy.refl _ _, hR0⟩

theorem bit_lead (x : UInt8) (k : Nat) (h1 : 1 ≤ k) (h8 : k ≤ 8) (hk : k ≤ lead x) : (x.toNat / 2 ^ (8 - k)) % 2 = 1 ↔ k < lead x := by
 have : ∀ (x : Fin 256) (k : Fin 9), 1 ≤ k.val → k.val ≤ lead (UInt8.ofNat x.val) → ((x.val / 2 ^ (8 - k.val)) % 2 = 1 ↔ k.val < lead (UInt8.ofNat x.val)) := by decide +kernel
 have h := this ⟨x.toNat, x.toNat_lt⟩ ⟨k, by omega⟩ h1
 simp only [UInt8.ofNat_toNat] at h
 exact h hk

theorem bit_int (x : UInt8) (k : Nat) (h8 : k ≤ 8) : ((x.toNat : Int) / 2 ^ min (8 - (k : Int)).toNat IntKind.u8.bits) % 2 = ((x.toNat / 2 ^ (8 - k) % 2 : Nat) : Int) := by
 have e2 : min (8 - (k : Int)).toNat IntKind.u8.bits = 8 - k := by show min _ 8 = _; omega
 rw [e2]; rfl
theorem wrap_nat (n : Nat) (h : n < u64) : IntKind.u64.wrap (n : Int) = (n : Int) := by
 unfold u64 at h
 show (n : Int) % 18446744073709551616 = n
 omega
theorem wrap_add (a c : Nat) (h : a + c < u64) : IntKind.u64.wrap ((a : Int) + (c : Int)) = ((a + c : Nat) : Int) := by
 rw [← Int.natCast_add]
 exact wrap_nat _ h
theorem shl_one (k : Nat) (h9 : k ≤ 8) (h1 : 1 ≤ k) : IntKind.u64.wrap (1 * 2 ^ min (8 - (k : Int)).toNat IntKind.u64.bits) = ((2 ^ (8 - k) : Nat) : Int) := by
 have h3 : ∀ k : Fin 9, IntKind.u64.wrap (1 * 2 ^ min (8 - (k.val : Int)).toNat IntKind.u64.bits) = ((2 ^ (8 - k.val) : Nat) : Int) := by decide +kernel
 exact h3 ⟨k, by omega⟩

set_option maxHeartbeats 2000000 in
theorem C_refRNumber {g : Nat} {s : RS} (w : World) (hR : Rfr w g s) :
  CallsR Tryz.prog 130 [.pointer (some ⟨g, 0, none⟩)] w fun v w' => v = .int .u64 (rNumber s).1 ∧ w.grownBy w' (some g) ∧ w'.heap.size = w.heap.size ∧ Rfr w' g (rNumber s).2 := by
 have hR0 := hR
 obtain ⟨B, cap, A, c, l, hB, hr, h1, h2, ho, h3, h4⟩ := hR
 obtain ⟨x, e⟩ := s
 simp only at hB hr h1 h2 h4
 have hA := ho.ne hB (by decide)
 refine callsR Tryz.func130 rfl rfl (by kernel_rfl) rfl ?_
 refine rk_seq ?_
 refine rk_region ?_
 refine wl_p (fun _ => o_assign rfl) ?_
 refine wl_nil ?_
 refine rk_seq ?_
 refine rk_seq ?_
 refine rk_region ?_
 refine wl_p (fun _ => o_move rfl) ?_
 refine wl_p (fun _ => o_nil rfl) ?_
 refine wl_p (fun _ => o_faddr (s := 132) (i := 1) (off := 1) Tryz.underlying132 rfl Tryz.sizeOf36 rfl rfl rfl) ?_
 refine wl_r (o_loadb (t := 36) Tryz.isAgg36 rfl hB (by rfl)) ?_
 refine wl_p (fun _ => o_ne rfl rfl) ?_
 refine wl_nil ?_
 refine rk_if rfl (fun h => ?_) (fun h => ?_)
 ·have he : e ≠ 0 := by omega
  rw [rNumber_err he]
  refine rk_seq ?_
  refine rk_region ?_
  refine wl_p (fun _ => o_assign rfl) ?_
  refine wl_nil ?_
  refine ret1 rfl rfl ?_
  exact ⟨rfl, World.grownBy.refl _ _, rfl, hR0⟩
 have he : e = 0 := by omega
 subst he
 refine rk_skip ?_
 refine rk_seq ?_
 refine rk_seq ?_
 refine rk_region ?_
 refine wl_p (fun _ => o_move rfl) ?_
 refine wl_p (fun _ => o_nil rfl) ?_
 refine wl_p (fun _ => o_faddr (s := 132) (i := 0) (off := 0) Tryz.underlying132 rfl Tryz.sizeOf39 rfl rfl rfl) ?_
 refine wl_r (o_loadb (t := 39) Tryz.isAgg39 rfl hB (by rfl)) ?_
 refine wl_p (fun _ => o_len (t := 39) Tryz.underlying39 rfl) ?_
 refine wl_p (fun _ => o_eq rfl rfl) ?_
 refine wl_nil ?_
 refine rk_if rfl (fun h => ?_) (fun h => ?_)
 ·have hx : x = [] := List.eq_nil_of_length_eq_zero (by omega)
  subst hx
  rw [rNumber_nil]
  refine rk_seq ?_
  refine rk_region ?_
  refine wl_p (fun _ => o_move rfl) ?_
  refine wl_p (fun _ => o_nil rfl) ?_
  refine wl_p (fun _ => o_faddr (s := 132) (i := 1) (off := 1) Tryz.underlying132 rfl Tryz.sizeOf36 rfl rfl rfl) ?_
  refine wl_store1 Tryz.sizeOf36 rfl rfl rfl hB (by simp) ?_
  intro w1 hB1 hg1 hz1
  refine wl_nil ?_
  refine rk_seq ?_
  refine rk_region ?_
  refine wl_p (fun _ => o_assign rfl) ?_
  refine wl_nil ?_
  refine ret1 rfl rfl ?_
  exact ⟨rfl, hg1, hz1, B, cap, A, c, l, hB1, Rd.nil _ _, h1, h2, ho.kept hg1 (.inr hA), h3, by simp⟩
 obtain ⟨b, t, rfl⟩ : ∃ b t, x = b :: t := by cases x with | nil => simp at h | cons b t => exact ⟨b, t, rfl⟩
 obtain ⟨bb, oo, rfl, hbl, hcell⟩ := hr.at_ (by simp)
 have hk := lead_bd b
 have hb256 : b.toNat < 256 := b.toNat_lt
 have hlen : (b :: t).length = t.length + 1 := rfl
 have hc0 := hcell 0 (by simp)
 simp only [List.getElem_cons_zero] at hc0
 refine rk_skip ?_
 refine rk_seq ?_
 refine rk_region ?_
 refine wl_p (fun _ => o_assign rfl) ?_
 refine wl_nil ?_
 refine rk_seq ?_
 refine rk_block ?_
 refine rk_joinb (fun fr w' => fr = [(0, .pointer (some ⟨g, 0, none⟩)), (3, .int .i64 (lead b))] ∧ w = w') ?_ (fun ks hj => ?_)
 rotate_left
 ·refine rk_loop (fun m fr w' => ∃ k : Nat, ∃ v : Int, fr = [(0, .pointer (some ⟨g, 0, none⟩)), (3, .int .i64 v)] ∧ v = k ∧ 1 ≤ k ∧ k ≤ lead b ∧ m = 9 - k ∧ w = w') (n := 8) (by repeat' constructor) ⟨1, 1, rfl, rfl, by omega, by omega, rfl, rfl⟩ ?_
  rintro m fr _ ⟨k, v, rfl, rfl, hk1, hkl, rfl, rfl⟩
  refine rk_seq ?_
  refine rk_seq ?_
  refine rk_region ?_
  refine wl_p (fun _ => o_move rfl) ?_
  refine wl_p (fun _ => o_lt rfl rfl) ?_
  refine wl_p (fun _ => o_move rfl) ?_
  refine wl_bool 22 rfl (fun h22 => ?_) (fun h22 => ?_)
  ·have h9 : (k : Int) < 9 := of_decide_eq_true h22
   have h8 : k ≤ 8 := by omega
   refine wl_p (fun _ => o_move rfl) ?_
   refine wl_p (fun _ => o_nil rfl) ?_
   refine wl_p (fun _ => o_faddr (s := 132) (i := 0) (off := 0) Tryz.underlying132 rfl Tryz.sizeOf39 rfl rfl rfl) ?_
   refine wl_r (o_loadb (t := 39) Tryz.isAgg39 rfl hB (by rfl)) ?_
   refine wl_p (fun _ => o_iaddr1 (j := 0) Tryz.underlying39 Tryz.sizeOf5 rfl rfl rfl (by simp)) ?_
   refine wl_r (o_load (t := 5) Tryz.isAgg5 rfl hc0) ?_
   refine wl_p (fun _ => o_move rfl) ?_
   refine wl_p (fun _ => o_sub rfl rfl (by omega) (by omega)) ?_
   refine wl_p (fun _ => o_convu64 (src := 3) (dst := 102) Tryz.underlying3 Tryz.underlying102 rfl (by omega) (by omega)) ?_
   refine wl_p (fun _ => o_shr rfl rfl (by omega)) ?_
   refine wl_p (fun _ => o_asi (o_remu rfl rfl (Int.ediv_nonneg (Int.natCast_nonneg _) (Int.le_of_lt (Int.pow_pos (by decide)))) (by decide)) (bit_int b k h8)) ?_
   refine wl_p (fun _ => o_eq rfl rfl) ?_
   refine wl_p (fun _ => o_pick_t rfl rfl) ?_
   refine wl_nil ?_
   refine rk_if rfl (fun h => ?_) (fun h => ?_)
   ·have hlt := (bit_lead b k hk1 h8 hkl).1 (by omega)
    refine rk_skip ?_
    refine rk_block ?_
    refine rk_region ?_
    refine wl_p (fun _ => o_move rfl) ?_
    refine wl_p (fun _ => o_add rfl rfl (by omega) (by omega)) ?_
    refine wl_p (fun _ => o_assign rfl) ?_
    refine wl_nil ?_
    refine rk_blk ?_
    exact rk_again (by repeat' constructor) ⟨k + 1, _, rfl, rfl, by omega, by omega, rfl, rfl⟩ (by omega)
   ·have hlt : ¬ k < lead b := fun h5 => h (by have := (bit_lead b k hk1 h8 hkl).2 h5; omega)
    obtain rfl : k = lead b := by omega
    refine rk_exit rfl ?_
    exact rk_to hj (by repeat' constructor) ⟨rfl, rfl⟩
  ·have h9 : ¬ (k : Int) < 9 := of_decide_eq_false h22
   obtain rfl : k = lead b := by omega
   refine wl_off ?_
   refine wl_off ?_
   refine wl_off ?_
   refine wl_off ?_
   refine wl_off ?_
   refine wl_off ?_
   refine wl_off ?_
   refine wl_off ?_
   refine wl_off ?_
   refine wl_off ?_
   refine wl_off ?_
   refine wl_off ?_
   refine wl_p (fun _ => o_pick_f rfl rfl) ?_
   refine wl_nil ?_
   refine rk_false rfl ?_
   refine rk_exit rfl ?_
   exact rk_to hj (by repeat' constructor) ⟨rfl, rfl⟩
 rintro fr _ ⟨rfl, rfl⟩
 refine rk_seq ?_
 refine rk_seq ?_
 refine rk_region ?_
 refine wl_p (fun _ => o_move rfl) ?_
 refine wl_p (fun _ => o_nil rfl) ?_
 refine wl_p (fun _ => o_faddr (s := 132) (i := 0) (off := 0) Tryz.underlying132 rfl Tryz.sizeOf39 rfl rfl rfl) ?_
 refine wl_r (o_loadb (t := 39) Tryz.isAgg39 rfl hB (by rfl)) ?_
 refine wl_p (fun _ => o_len (t := 39) Tryz.underlying39 rfl) ?_
 refine wl_p (fun _ => o_move rfl) ?_
 refine wl_p (fun _ => o_lt rfl rfl) ?_
 refine wl_nil ?_
 refine rk_if rfl (fun h => ?_) (fun h => ?_)
 ·rw [rNumber_more (by omega)]
  refine rk_seq ?_
  refine rk_region ?_
  refine wl_p (fun _ => o_move rfl) ?_
  refine wl_p (fun _ => o_nil rfl) ?_
  refine wl_p (fun _ => o_faddr (s := 132) (i := 1) (off := 1) Tryz.underlying132 rfl Tryz.sizeOf36 rfl rfl rfl) ?_
  refine wl_store1 Tryz.sizeOf36 rfl rfl rfl hB (by simp) ?_
  intro w1 hB1 hg1 hz1
  refine wl_nil ?_
  refine rk_seq ?_
  refine rk_region ?_
  refine wl_p (fun _ => o_assign rfl) ?_
  refine wl_nil ?_
  refine ret1 rfl rfl ?_
  exact ⟨rfl, hg1, hz1, _, cap, A, c, l, hB1, hr.grown hg1 (.inr (by rw [h3]; exact hA)), h1, h2, ho.kept hg1 (.inr hA), h3, by simp⟩
 have hfit : ¬ t.length + 1 < lead b := by omega
 refine rk_skip ?_
 refine rk_seq ?_
 refine rk_region ?_
 refine wl_p (fun _ => o_assign rfl) ?_
 refine wl_nil ?_
 refine rk_seq ?_
 refine rk_seq ?_
 refine rk_region ?_
 refine wl_p (fun _ => o_move rfl) ?_
 refine wl_p (fun _ => o_lt rfl rfl) ?_
 refine wl_nil ?_
 refine rk_join (fun fr w' => fr = [(0, .pointer (some ⟨g, 0, none⟩)), (3, .int .i64 (lead b)), (4, .int .u64 ((b.toNat % 2 ^ (8 - lead b) : Nat) : Int))] ∧ w = w') ?_ (fun ks hj => ?_)
 rotate_left
 ·refine rk_if rfl (fun h => ?_) (fun h => ?_)
  ·refine rk_region ?_
   refine wl_p (fun _ => o_move rfl) ?_
   refine wl_p (fun _ => o_nil rfl) ?_
   refine wl_p (fun _ => o_faddr (s := 132) (i := 0) (off := 0) Tryz.underlying132 rfl Tryz.sizeOf39 rfl rfl rfl) ?_
   refine wl_r (o_loadb (t := 39) Tryz.isAgg39 rfl hB (by rfl)) ?_
   refine wl_p (fun _ => o_iaddr1 (j := 0) Tryz.underlying39 Tryz.sizeOf5 rfl rfl rfl (by simp)) ?_
   refine wl_r (o_load (t := 5) Tryz.isAgg5 rfl hc0) ?_
   refine wl_p (fun _ => o_convu64 (src := 5) (dst := 43) Tryz.underlying5 Tryz.underlying43 rfl (by omega) (by omega)) ?_
   refine wl_p (fun _ => o_move rfl) ?_
   refine wl_p (fun _ => o_sub rfl rfl (by omega) (by omega)) ?_
   refine wl_p (fun _ => o_convu64 (src := 3) (dst := 102) Tryz.underlying3 Tryz.underlying102 rfl (by omega) (by omega)) ?_
   refine wl_p (fun _ => o_asi (o_shl rfl rfl (show (0 : Int) ≤ 8 - (lead b : Int) by omega)) (shl_one (lead b) (by omega) hk.1)) ?_
   refine wl_p (fun _ => o_asi (o_remu rfl rfl (Int.natCast_nonneg _) (Int.natCast_pos.2 (Nat.two_pow_pos _))) (show (b.toNat : Int) % ((2 ^ (8 - lead b) : Nat) : Int) = _ from rfl)) ?_
   refine wl_p (fun _ => o_assign rfl) ?_
   refine wl_nil ?_
   exact rk_to hj (by repeat' constructor) ⟨rfl, rfl⟩
  ·have h9 : lead b = 9 := by omega
   refine rk_skip ?_
   exact rk_to hj (fr0 := [(0, .pointer (some ⟨g, 0, none⟩)), (3, .int .i64 (lead b)), (4, .int .u64 0)]) (by repeat' constructor) ⟨by rw [h9]; simp [Nat.mod_one], rfl⟩
 rintro fr _ ⟨rfl, rfl⟩
 refine rk_seq ?_
 refine rk_seq ?_
 refine rk_region ?_
 refine wl_p (fun _ => o_assign rfl) ?_
 refine wl_nil ?_
 refine rk_block ?_
 have hu64 : ∀ j, j ≤ lead b - 1 → beVal (b.toNat % 2 ^ (8 - lead b)) (t.take j) < u64 := fun j hj => beVal_u64 b (t.take j) (by rw [List.length_take]; omega)
 refine rk_joinb (fun fr w' => fr = [(0, .pointer (some ⟨g, 0, none⟩)), (3, .int .i64 (lead b)), (4, .int .u64 ((beVal (b.toNat % 2 ^ (8 - lead b)) (t.take (lead b - 1)) : Nat) : Int))] ∧ w = w') ?_ (fun ks hj => ?_)
 rotate_left
 ·refine rk_loop (fun m fr w' => ∃ j : Nat, ∃ v u : Int, fr = [(0, .pointer (some ⟨g, 0, none⟩)), (3, .int .i64 (lead b)), (4, .int .u64 u), (5, .int .i64 v)] ∧ u = (beVal (b.toNat % 2 ^ (8 - lead b)) (t.take j) : Nat) ∧ v = (j : Int) + 1 ∧ j ≤ lead b - 1 ∧ m = 9 - j ∧ w = w') (n := 9) (by repeat' constructor) ⟨0, 1, _, rfl, rfl, rfl, by omega, rfl, rfl⟩ ?_
  rintro m fr _ ⟨j, v, u, rfl, rfl, rfl, hj1, rfl, rfl⟩
  refine rk_seq ?_
  refine rk_seq ?_
  refine rk_region ?_
  refine wl_p (fun _ => o_move rfl) ?_
  refine wl_p (fun _ => o_move rfl) ?_
  refine wl_p (fun _ => o_lt rfl rfl) ?_
  refine wl_nil ?_
  refine rk_if rfl (fun h => ?_) (fun h => ?_)
  ·have hjt : j < t.length := by omega
   have e1 : t.take (j + 1) = t.take j ++ [t[j]] := by rw [List.take_succ_eq_append_getElem hjt]
   have hlt := hu64 (j + 1) (by omega)
   have ht256 : t[j].toNat < 256 := t[j].toNat_lt
   rw [e1, beVal_snoc] at hlt
   refine rk_skip ?_
   refine rk_seq ?_
   refine rk_block ?_
   refine rk_region ?_
   refine wl_p (fun _ => o_move rfl) ?_
   refine wl_p (fun _ => o_asi (o_mulw rfl rfl) (wrap_nat (beVal (b.toNat % 2 ^ (8 - lead b)) (t.take j) * 256) (Nat.lt_of_le_of_lt (Nat.le_add_right _ _) hlt))) ?_
   refine wl_p (fun _ => o_move rfl) ?_
   refine wl_p (fun _ => o_nil rfl) ?_
   refine wl_p (fun _ => o_faddr (s := 132) (i := 0) (off := 0) Tryz.underlying132 rfl Tryz.sizeOf39 rfl rfl rfl) ?_
   refine wl_r (o_loadb (t := 39) Tryz.isAgg39 rfl hB (by rfl)) ?_
   refine wl_p (fun _ => o_move rfl) ?_
   refine wl_p (fun _ => o_iaddr1 (j := j + 1) Tryz.underlying39 Tryz.sizeOf5 rfl rfl rfl (by omega)) ?_
   have hc1 : w.cell? ⟨bb, oo + (j + 1), none⟩ = some (.int .u8 (t[j].toNat : Int)) := by have := hcell (j + 1) (by omega); simpa only [List.getElem_cons_succ] using this
   refine wl_r (o_load (t := 5) Tryz.isAgg5 rfl hc1) ?_
   refine wl_p (fun _ => o_convu64 (src := 5) (dst := 43) Tryz.underlying5 Tryz.underlying43 rfl (by omega) (by omega)) ?_
   refine wl_p (fun _ => o_asi (o_addw rfl rfl) (wrap_add (beVal (b.toNat % 2 ^ (8 - lead b)) (t.take j) * 256) t[j].toNat hlt)) ?_
   refine wl_p (fun _ => o_assign rfl) ?_
   refine wl_nil ?_
   refine rk_blk ?_
   refine rk_region ?_
   refine wl_p (fun _ => o_move rfl) ?_
   refine wl_p (fun _ => o_add rfl rfl (by omega) (by omega)) ?_
   refine wl_p (fun _ => o_assign rfl) ?_
   refine wl_nil ?_
   exact rk_again (by repeat' constructor) ⟨j + 1, _, _, rfl, by rw [e1, beVal_snoc], rfl, by omega, rfl, rfl⟩ (by omega)
  ·obtain rfl : j = lead b - 1 := by omega
   refine rk_exit rfl ?_
   exact rk_to hj (by repeat' constructor) ⟨rfl, rfl⟩
 rintro fr _ ⟨rfl, rfl⟩
 have hu := hu64 (lead b - 1) (Nat.le_refl _)
 generalize hval : beVal (b.toNat % 2 ^ (8 - lead b)) (t.take (lead b - 1)) = u at hu
 refine rk_seq ?_
 refine rk_seq ?_
 refine rk_region ?_
 refine wl_p (fun _ => o_move rfl) ?_
 refine wl_call rfl (C_refroom u w hu) ?_
 rintro _ w12 ⟨rfl, rfl⟩
 refine wl_p (fun _ => o_move rfl) ?_
 refine wl_p (fun _ => o_ne rfl rfl) ?_
 refine wl_nil ?_
 refine rk_if rfl (fun h => ?_) (fun h => ?_)
 ·rw [rNumber_bad hfit (by rw [hval]; omega)]
  refine rk_seq ?_
  refine rk_region ?_
  refine wl_p (fun _ => o_move rfl) ?_
  refine wl_p (fun _ => o_nil rfl) ?_
  refine wl_p (fun _ => o_faddr (s := 132) (i := 1) (off := 1) Tryz.underlying132 rfl Tryz.sizeOf36 rfl rfl rfl) ?_
  refine wl_store1 Tryz.sizeOf36 rfl rfl rfl hB (by simp) ?_
  intro w1 hB1 hg1 hz1
  refine wl_nil ?_
  refine rk_seq ?_
  refine rk_region ?_
  refine wl_p (fun _ => o_assign rfl) ?_
  refine wl_nil ?_
  refine ret1 rfl rfl ?_
  exact ⟨rfl, hg1, hz1, _, cap, A, c, l, hB1, hr.grown hg1 (.inr (by rw [h3]; exact hA)), h1, h2, ho.kept hg1 (.inr hA), h3, by simp⟩
 ·rw [rNumber_ok hfit (by rw [hval]; omega), hval]
  refine rk_skip ?_
  refine rk_seq ?_
  refine rk_region ?_
  refine wl_p (fun _ => o_move rfl) ?_
  refine wl_p (fun _ => o_move rfl) ?_
  refine wl_p (fun _ => o_nil rfl) ?_
  refine wl_p (fun _ => o_faddr (s := 132) (i := 0) (off := 0) Tryz.underlying132 rfl Tryz.sizeOf39 rfl rfl rfl) ?_
  refine wl_r (o_loadb (t := 39) Tryz.isAgg39 rfl hB (by rfl)) ?_
  refine wl_p (fun _ => o_move rfl) ?_
  refine wl_p (fun _ => o_slice_lo (lo := lead b) Tryz.underlying39 Tryz.sizeOf5 rfl rfl rfl (by omega)) ?_
  refine wl_p (fun _ => o_nil rfl) ?_
  refine wl_p (fun _ => o_faddr (s := 132) (i := 0) (off := 0) Tryz.underlying132 rfl Tryz.sizeOf39 rfl rfl rfl) ?_
  refine wl_store1 Tryz.sizeOf39 rfl rfl rfl hB (by simp) ?_
  intro w1 hB1 hg1 hz1
  refine wl_nil ?_
  refine rk_seq ?_
  refine rk_region ?_
  refine wl_p (fun _ => o_move rfl) ?_
  refine wl_p (fun _ => o_assign rfl) ?_
  refine wl_nil ?_
  refine ret1 rfl rfl ?_
  have hr1 := hr.grown hg1 (.inr (by rw [h3]; exact hA))
  have hr2 := hr1.cut (k := lead b) (c := cap) (by omega) h1
  have e2 : (b :: t).drop (lead b) = t.drop (lead b - 1) := by
   obtain ⟨k, hk0⟩ : ∃ k, lead b = k + 1 := ⟨lead b - 1, by omega⟩
   rw [hk0]; rfl
  have e3 : (b :: t).length - lead b = (t.drop (lead b - 1)).length := by rw [List.length_drop]; omega
  rw [e2] at hr2
  exact ⟨rfl, hg1, hz1, cutA (some ⟨bb, oo, none⟩) cap 1 (lead b), cap - lead b, A, c, l, by rw [← e3]; exact hB1, hr2, by rw [← e3]; omega, by rw [← e3]; omega, ho.kept hg1 (.inr hA), by rw [blk_cutA]; exact h3, by simp⟩

theorem C_refEnd {g : Nat} {s : RS} (w : World) (hR : Rfr w g s) :
  CallsR Tryz.prog 96 [.pointer (some ⟨g, 0, none⟩)] w fun v w' => v = .int .i64 (rEnd s) ∧ w = w' := by
 obtain ⟨B, cap, A, c, l, hB, hr, h1, h2, ho, h3, h4⟩ := hR
 obtain ⟨x, e⟩ := s
 simp only at hB hr h1 h2 h4
 refine callsR Tryz.func96 rfl rfl (by kernel_rfl) rfl ?_
 refine rk_seq ?_
 refine rk_region ?_
 refine wl_p (fun _ => o_assign rfl) ?_
 refine wl_nil ?_
 refine rk_seq ?_
 refine rk_seq ?_
 refine rk_region ?_
 refine wl_p (fun _ => o_move rfl) ?_
 refine wl_p (fun _ => o_nil rfl) ?_
 refine wl_p (fun _ => o_faddr (s := 132) (i := 1) (off := 1) Tryz.underlying132 rfl Tryz.sizeOf36 rfl rfl rfl) ?_
 refine wl_r (o_loadb (t := 36) Tryz.isAgg36 rfl hB (by rfl)) ?_
 refine wl_p (fun _ => o_ne rfl rfl) ?_
 refine wl_nil ?_
 refine rk_if rfl (fun h => ?_) (fun h => ?_)
 ·refine rk_seq ?_
  refine rk_region ?_
  refine wl_p (fun _ => o_move rfl) ?_
  refine wl_p (fun _ => o_nil rfl) ?_
  refine wl_p (fun _ => o_faddr (s := 132) (i := 1) (off := 1) Tryz.underlying132 rfl Tryz.sizeOf36 rfl rfl rfl) ?_
  refine wl_r (o_loadb (t := 36) Tryz.isAgg36 rfl hB (by rfl)) ?_
  refine wl_p (fun _ => o_assign rfl) ?_
  refine wl_nil ?_
  refine ret1 rfl rfl ?_
  exact ⟨by unfold rEnd; rw [if_pos (by omega)], rfl⟩
 ·have he : e = 0 := by omega
  subst he
  refine rk_skip ?_
  refine rk_seq ?_
  refine rk_seq ?_
  refine rk_region ?_
  refine wl_p (fun _ => o_move rfl) ?_
  refine wl_p (fun _ => o_nil rfl) ?_
  refine wl_p (fun _ => o_faddr (s := 132) (i := 0) (off := 0) Tryz.underlying132 rfl Tryz.sizeOf39 rfl rfl rfl) ?_
  refine wl_r (o_loadb (t := 39) Tryz.isAgg39 rfl hB (by rfl)) ?_
  refine wl_p (fun _ => o_len (t := 39) Tryz.underlying39 rfl) ?_
  refine wl_p (fun _ => o_gt rfl rfl) ?_
  refine wl_nil ?_
  refine rk_if rfl (fun h => ?_) (fun h => ?_)
  ·refine rk_seq ?_
   refine rk_region ?_
   refine wl_p (fun _ => o_assign rfl) ?_
   refine wl_nil ?_
   refine ret1 rfl rfl ?_
   exact ⟨by unfold rEnd; rw [if_neg (by simp), if_pos (fun h0 : x = [] => by subst h0; simp at h)]; rfl, rfl⟩
  ·refine rk_skip ?_
   refine rk_seq ?_
   refine rk_region ?_
   refine wl_p (fun _ => o_assign rfl) ?_
   refine wl_nil ?_
   refine ret1 rfl rfl ?_
   have hx : x = [] := List.eq_nil_of_length_eq_zero (by omega)
   exact ⟨by unfold rEnd; rw [if_neg (by simp), if_neg (by simpa using hx)]; rfl, rfl⟩

theorem rNumber_keeps {s : RS} (h : (rNumber s).2.2 ≠ 0) : (rNumber s).2.1 = s.1 := by
 obtain ⟨x, e⟩ := s
 unfold rNumber at h ⊢
 simp only at h ⊢
 split <;> rename_i he
 ·rfl
 ·rw [if_neg he] at h
  cases x with
  | nil => rfl
  | cons c t =>
   simp only at h ⊢
   split <;> rename_i h1
   ·rfl
   ·rw [if_neg h1] at h
    split <;> rename_i h2
    ·rw [if_pos h2] at h; exact absurd rfl h
    ·rfl

set_option maxHeartbeats 1000000 in
theorem C_refRBlock {g : Nat} {s : RS} (w : World) (hR : Rfr w g s) :
  CallsR Tryz.prog 94 [.pointer (some ⟨g, 0, none⟩)] w fun v w' => (∃ A' c', v = .slice A' (rBlock s).1.length c' ∧ Own w' w.heap.size A' c' (rBlock s).1) ∧ w.grownBy w' (some g) ∧ Rfr w' g (rBlock s).2 := by
 have hR0 := hR
 obtain ⟨B, cap, A, c, l, hB, hr, h1, h2, ho, h3, h4⟩ := hR
 obtain ⟨x, e⟩ := s
 simp only at hB hr h1 h2 h4
 have hA := ho.ne hB (by decide)
 refine callsR Tryz.func94 rfl rfl (by kernel_rfl) rfl ?_
 refine rk_seq ?_
 refine rk_region ?_
 refine wl_p (fun _ => o_assign rfl) ?_
 refine wl_nil ?_
 refine rk_seq ?_
 refine rk_region ?_
 refine wl_p (fun _ => o_move rfl) ?_
 refine wl_p (fun _ => o_nil rfl) ?_
 refine wl_p (fun _ => o_faddr (s := 132) (i := 0) (off := 0) Tryz.underlying132 rfl Tryz.sizeOf39 rfl rfl rfl) ?_
 refine wl_r (o_loadb (t := 39) Tryz.isAgg39 rfl hB (by rfl)) ?_
 refine wl_p (fun _ => o_assign rfl) ?_
 refine wl_nil ?_
 refine rk_seq ?_
 refine rk_region ?_
 refine wl_p (fun _ => o_move rfl) ?_
 refine wl_call rfl (C_refRNumber w hR0) ?_
 rintro _ w1 ⟨rfl, hg1, hz1, hR1⟩
 generalize hn : rNumber (x, e) = y at hR1
 obtain ⟨n, x1, e1⟩ := y
 have hR1' := hR1
 obtain ⟨B1, cap1, A1, c1, l1, hB1, hr1, h11, h12, ho1, h13, h14⟩ := hR1
 simp only at hB1 hr1 h11 h12 h14
 have hb : rBlock (x, e) = if e1 ≠ 0 then ([], (x, e1)) else if x1.length < n then ([], (x, 5)) else (x1.take n, (x1.drop n, 0)) := by unfold rBlock; rw [hn]
 rw [hb]
 clear hb
 refine wl_p (fun _ => o_assign rfl) ?_
 refine wl_nil ?_
 refine rk_seq ?_
 refine rk_seq ?_
 refine rk_region ?_
 refine wl_p (fun _ => o_move rfl) ?_
 refine wl_p (fun _ => o_nil rfl) ?_
 refine wl_p (fun _ => o_faddr (s := 132) (i := 1) (off := 1) Tryz.underlying132 rfl Tryz.sizeOf36 rfl rfl rfl) ?_
 refine wl_r (o_loadb (t := 36) Tryz.isAgg36 rfl hB1 (by rfl)) ?_
 refine wl_p (fun _ => o_eq rfl rfl) ?_
 refine wl_p (fun _ => o_move rfl) ?_
 refine wl_bool 16 rfl (fun h16 => ?_) (fun h16 => ?_)
 ·have he : e1 = 0 := by have := of_decide_eq_true h16; omega
  subst he
  rw [if_neg (by simp)]
  refine wl_p (fun _ => o_move rfl) ?_
  refine wl_p (fun _ => o_move rfl) ?_
  refine wl_p (fun _ => o_nil rfl) ?_
  refine wl_p (fun _ => o_faddr (s := 132) (i := 0) (off := 0) Tryz.underlying132 rfl Tryz.sizeOf39 rfl rfl rfl) ?_
  refine wl_r (o_loadb (t := 39) Tryz.isAgg39 rfl hB1 (by rfl)) ?_
  refine wl_p (fun _ => o_len (t := 39) Tryz.underlying39 rfl) ?_
  refine wl_p (fun _ => o_convu64 (src := 3) (dst := 43) Tryz.underlying3 Tryz.underlying43 rfl (by omega) (by omega)) ?_
  refine wl_p (fun _ => o_gt rfl rfl) ?_
  refine wl_p (fun _ => o_pick_t rfl rfl) ?_
  refine wl_nil ?_
  refine rk_if rfl (fun h => ?_) (fun h => ?_)
  ·rw [if_pos (by omega)]
   refine rk_region ?_
   refine wl_p (fun _ => o_move rfl) ?_
   refine wl_p (fun _ => o_move rfl) ?_
   refine wl_p (fun _ => o_move rfl) ?_
   refine wl_p (fun _ => o_nil rfl) ?_
   refine wl_p (fun _ => o_faddr (s := 132) (i := 1) (off := 1) Tryz.underlying132 rfl Tryz.sizeOf36 rfl rfl rfl) ?_
   refine wl_store1 Tryz.sizeOf36 rfl rfl rfl hB1 (by simp) ?_
   intro w2 hB2 hg2 hz2
   refine wl_p (fun _ => o_nil rfl) ?_
   refine wl_p (fun _ => o_faddr (s := 132) (i := 0) (off := 0) Tryz.underlying132 rfl Tryz.sizeOf39 rfl rfl rfl) ?_
   refine wl_store1 Tryz.sizeOf39 rfl rfl rfl hB2 (by simp) ?_
   intro w3 hB3 hg3 hz3
   refine wl_nil ?_
   refine rk_seq ?_
   refine rk_seq ?_
   refine rk_region ?_
   refine wl_p (fun _ => o_move rfl) ?_
   refine wl_p (fun _ => o_nil rfl) ?_
   refine wl_p (fun _ => o_faddr (s := 132) (i := 1) (off := 1) Tryz.underlying132 rfl Tryz.sizeOf36 rfl rfl rfl) ?_
   refine wl_r (o_loadb (t := 36) Tryz.isAgg36 rfl hB3 (by rfl)) ?_
   refine wl_p (fun _ => o_ne rfl rfl) ?_
   refine wl_nil ?_
   refine rk_true rfl ?_
   refine rk_seq ?_
   refine rk_region ?_
   refine wl_p (fun _ => o_assign rfl) ?_
   refine wl_nil ?_
   refine ret1 rfl rfl ?_
   have hg := grownBy_trans hg1 (grownBy_trans hg2 hg3)
   exact ⟨⟨none, 0, rfl, Own.nil _ _⟩, hg, B, cap, A, c, l, hB3, hr.grown hg (.inr (by rw [h3]; exact hA)), h1, h2, ho.kept hg (.inr hA), h3, by simp⟩
  ·rw [if_neg (by omega)]
   refine rk_skip ?_
   refine rk_seq ?_
   refine rk_seq ?_
   refine rk_region ?_
   refine wl_p (fun _ => o_move rfl) ?_
   refine wl_p (fun _ => o_nil rfl) ?_
   refine wl_p (fun _ => o_faddr (s := 132) (i := 1) (off := 1) Tryz.underlying132 rfl Tryz.sizeOf36 rfl rfl rfl) ?_
   refine wl_r (o_loadb (t := 36) Tryz.isAgg36 rfl hB1 (by rfl)) ?_
   refine wl_p (fun _ => o_ne rfl rfl) ?_
   refine wl_nil ?_
   refine rk_false rfl ?_
   refine rk_skip ?_
   refine rk_seq ?_
   refine rk_region ?_
   refine wl_p (fun _ => o_move rfl) ?_
   refine wl_p (fun _ => o_move rfl) ?_
   refine wl_p (fun _ => o_convi64 (src := 43) (dst := 3) Tryz.underlying43 Tryz.underlying3 rfl (by omega) (by omega)) ?_
   refine wl_call rfl (C_refTake n w1 hR1' (by omega)) ?_
   rintro _ w2 ⟨⟨A2, c2, rfl, hown2⟩, hg2, hR2⟩
   have e1 : rTake (n : Int).toNat (x1, 0) = (x1.take n, (x1.drop n, 0)) := by unfold rTake; rw [if_neg (by simp), if_neg (by show ¬ x1.length < n; omega)]; rfl
   rw [show (n, x1, 0).2 = (x1, 0) from rfl, e1] at hR2 hown2 ⊢
   refine wl_p (fun _ => o_assign rfl) ?_
   refine wl_nil ?_
   refine ret1 rfl rfl ?_
   exact ⟨⟨A2, c2, rfl, hown2.base (by omega)⟩, grownBy_trans hg1 hg2, hR2⟩
 ·have he : e1 ≠ 0 := by intro h0; subst h0; exact absurd h16 (by decide)
  rw [if_pos he]
  refine wl_off ?_
  refine wl_off ?_
  refine wl_off ?_
  refine wl_off ?_
  refine wl_off ?_
  refine wl_off ?_
  refine wl_off ?_
  refine wl_off ?_
  refine wl_p (fun _ => o_pick_f rfl rfl) ?_
  refine wl_nil ?_
  refine rk_false rfl ?_
  refine rk_skip ?_
  refine rk_seq ?_
  refine rk_seq ?_
  refine rk_region ?_
  refine wl_p (fun _ => o_move rfl) ?_
  refine wl_p (fun _ => o_nil rfl) ?_
  refine wl_p (fun _ => o_faddr (s := 132) (i := 1) (off := 1) Tryz.underlying132 rfl Tryz.sizeOf36 rfl rfl rfl) ?_
  refine wl_r (o_loadb (t := 36) Tryz.isAgg36 rfl hB1 (by rfl)) ?_
  refine wl_p (fun _ => o_ne rfl rfl) ?_
  refine wl_nil ?_
  refine rk_if rfl (fun h => ?_) (fun h => absurd h (by omega))
  refine rk_seq ?_
  refine rk_region ?_
  refine wl_p (fun _ => o_assign rfl) ?_
  refine wl_nil ?_
  refine ret1 rfl rfl ?_
  have hx : x1 = x := by
   have h5 := rNumber_keeps (s := (x, e)) (by rw [hn]; exact he)
   rw [hn] at h5
   exact h5
  exact ⟨⟨none, 0, rfl, Own.nil _ _⟩, hg1, hx ▸ hR1'⟩
end Go.Proofs.YtahkeoegbjopfaaGreat
/-
  Walks of the document's answer for chapter 1: its reader's words and digests.
-/
namespace Go.Proofs.YtahkeoegbjopfaaGreat
set_option maxRecDepth 100000
open Go.RowKit

theorem rTake_leF (n : Nat) (s : RS) : (rTake n s).1.length ≤ n := by
 unfold rTake
 split
 ·simp
 ·split
  ·simp
  ·simp; omega
theorem rTake_allF (n : Nat) (s : RS) : (rTake n s).2.2 = 0 → (rTake n s).1.length = n := by
 unfold rTake
 intro h
 split at h <;> rename_i h1
 ·exact absurd h h1
 ·rw [if_neg h1]
  split at h <;> rename_i h2
  ·exact absurd h (by simp)
  ·rw [if_neg h2]; simp; omega
theorem rTake_noneF (n : Nat) (s : RS) (h : (rTake n s).2.2 ≠ 0) : (rTake n s).1 = [] := by
 unfold rTake at h ⊢
 split <;> rename_i h1
 ·rfl
 ·rw [if_neg h1] at h
  split <;> rename_i h2
  ·rfl
  ·rw [if_neg h2] at h; exact absurd rfl h

theorem C_refRWord {g : Nat} {s : RS} (size : Int) (w : World) (hR : Rfr w g s) :
  CallsR Tryz.prog 93 [.pointer (some ⟨g, 0, none⟩), .int .i64 size] w fun v w' => v = .int .u64 (rWord size s).1 ∧ w.grownBy w' (some g) ∧ Rfr w' g (rWord size s).2 := by
 obtain ⟨hk1, hk2, hk3⟩ := clampN_bd size
 have hcl : min (max size 1) 8 = (clampN size : Int) := by omega
 refine callsR Tryz.func93 rfl rfl (by kernel_rfl) rfl ?_
 refine rk_seq ?_
 refine rk_region ?_
 refine wl_p (fun _ => o_assign rfl) ?_
 refine wl_nil ?_
 refine rk_seq ?_
 refine rk_region ?_
 refine wl_p (fun _ => o_move rfl) ?_
 refine wl_p (fun _ => o_move rfl) ?_
 refine wl_p (fun _ => o_max rfl rfl) ?_
 refine wl_p (fun _ => o_min rfl rfl) ?_
 rw [hcl]
 refine wl_call rfl (C_refTake (clampN size) w hR (by omega)) ?_
 rintro _ w1 ⟨⟨A, c, rfl, hown⟩, hg1, hR1⟩
 have hle := rTake_leF (clampN size) s
 unfold rWord
 rw [Int.toNat_natCast] at hown hR1 ⊢
 generalize rTake (clampN size) s = y at *
 obtain ⟨b, s2⟩ := y
 simp only at hown hR1 hle ⊢
 refine wl_p (fun _ => o_assign rfl) ?_
 refine wl_nil ?_
 refine rk_seq ?_
 refine rk_region ?_
 refine wl_p (fun _ => o_assign rfl) ?_
 refine wl_nil ?_
 refine rk_seq ?_
 refine rk_seq ?_
 refine rk_region ?_
 refine wl_p (fun _ => o_move rfl) ?_
 refine wl_p (fun _ => o_len (t := 39) Tryz.underlying39 rfl) ?_
 refine wl_p (fun _ => o_sub rfl rfl (by omega) (by omega)) ?_
 refine wl_p (fun _ => o_assign rfl) ?_
 refine wl_nil ?_
 refine rk_block ?_
 refine rk_joinb (fun fr w' => fr = [(5, .slice A b.length c), (6, .int .u64 (leVal b : Nat))] ∧ w1 = w') ?_ (fun ks hj => ?_)
 rotate_left
 ·refine rk_loop (fun m fr w' => ∃ (u v : Int), fr = [(5, .slice A b.length c), (6, .int .u64 u), (7, .int .i64 v)] ∧ u = (leVal (b.drop m) : Nat) ∧ v = (m : Int) - 1 ∧ m ≤ b.length ∧ w1 = w') (n := b.length) (by repeat' constructor)
   ⟨_, _, rfl, by simp [leVal], rfl, Nat.le_refl _, rfl⟩ ?_
  rintro m fr _ ⟨u, v, rfl, rfl, rfl, hm, rfl⟩
  refine rk_seq ?_
  refine rk_seq ?_
  refine rk_region ?_
  refine wl_p (fun _ => o_move rfl) ?_
  refine wl_p (fun _ => o_ge rfl rfl) ?_
  refine wl_nil ?_
  refine rk_if rfl (fun h => ?_) (fun h => ?_)
  ·obtain ⟨j, rfl⟩ : ∃ j, m = j + 1 := ⟨m - 1, by omega⟩
   have hjb : j < b.length := by omega
   have e1 : b.drop j = b[j] :: b.drop (j + 1) := by rw [List.drop_eq_getElem_cons hjb]
   have hlt := leVal_u64 (b.drop j) (by rw [List.length_drop]; omega)
   have hb256 : b[j].toNat < 256 := b[j].toNat_lt
   rw [e1] at hlt
   simp only [leVal] at hlt
   obtain ⟨bb, oo, rfl, hbl, hcell⟩ := hown.rd.at_ (by intro e; rw [e] at hjb; simp at hjb)
   have hcj := hcell j hjb
   refine rk_skip ?_
   refine rk_seq ?_
   refine rk_block ?_
   refine rk_region ?_
   refine wl_p (fun _ => o_move rfl) ?_
   refine wl_p (fun _ => o_asi (o_mulw rfl rfl) (wrap_nat (leVal (b.drop (j + 1)) * 256) (by unfold u64; omega))) ?_
   refine wl_p (fun _ => o_move rfl) ?_
   refine wl_p (fun _ => o_move rfl) ?_
   refine wl_p (fun _ => o_iaddr1 (j := j) Tryz.underlying39 Tryz.sizeOf5 rfl rfl (by omega) (by omega)) ?_
   refine wl_r (o_load (t := 5) Tryz.isAgg5 rfl hcj) ?_
   refine wl_p (fun _ => o_convu64 (src := 5) (dst := 43) Tryz.underlying5 Tryz.underlying43 rfl (by omega) (by omega)) ?_
   refine wl_p (fun _ => o_asi (o_addw rfl rfl) (wrap_add (leVal (b.drop (j + 1)) * 256) b[j].toNat (by unfold u64; omega))) ?_
   refine wl_p (fun _ => o_assign rfl) ?_
   refine wl_nil ?_
   refine rk_blk ?_
   refine rk_region ?_
   refine wl_p (fun _ => o_move rfl) ?_
   refine wl_p (fun _ => o_sub rfl rfl (by omega) (by omega)) ?_
   refine wl_p (fun _ => o_assign rfl) ?_
   refine wl_nil ?_
   exact rk_again (by repeat' constructor) ⟨_, _, rfl, by rw [e1]; simp only [leVal]; rw [Nat.mul_comm, Nat.add_comm], by omega, by omega, rfl⟩ (by omega)
  ·obtain rfl : m = 0 := by omega
   refine rk_exit rfl ?_
   exact rk_to hj (fr0 := [(5, .slice A b.length c), (6, .int .u64 (leVal b : Nat))]) (by repeat' constructor) ⟨rfl, rfl⟩
 rintro fr _ ⟨rfl, rfl⟩
 refine rk_seq ?_
 refine rk_region ?_
 refine wl_p (fun _ => o_move rfl) ?_
 refine wl_p (fun _ => o_assign rfl) ?_
 refine wl_nil ?_
 refine ret1 rfl rfl ?_
 exact ⟨rfl, hg1, hR1⟩

theorem C_refRDigest {g : Nat} {s : RS} (w : World) (hR : Rfr w g s) :
  CallsR Tryz.prog 95 [.pointer (some ⟨g, 0, none⟩)] w fun v w' => v = .agg (B8 (rDigest s).1).toArray ∧ w.grownBy w' (some g) ∧ Rfr w' g (rDigest s).2 := by
 have hgl := hR.lt
 refine callsR Tryz.func95 rfl rfl (by kernel_rfl) rfl ?_
 refine rk_seq ?_
 refine rk_region ?_
 refine wl_alloc (B8 (nulls 32)) Tryz.zeroValue44 rfl ?_
 intro w1 hB1 hb1 hz1
 refine wl_nil ?_
 refine rk_seq ?_
 refine rk_region ?_
 refine wl_alloc (B8 (nulls 32)) Tryz.zeroValue44 rfl ?_
 intro w2 hB2 hb2 hz2
 have hR2 := (hR.below hb1).below hb2
 have hB12 := hB1.under hb2
 refine wl_nil ?_
 refine rk_seq ?_
 refine rk_draw (id := 2) (none) [0, 0, 2, 5] [0, 0, 2, 7] 12 0 [(.p, 0), (.p, 1), (.l, 2), (.l, 3)] (by kernel_rfl) (by kernel_rfl) (by kernel_rfl) (by kernel_rfl) (by kernel_rfl) ?_
 refine wl_p (fun _ => o_slice_arr (t := 44) Tryz.underlying44 Tryz.sizeOf5 rfl) ?_
 refine wl_p (fun _ => o_move rfl) ?_
 refine wl_call rfl (C_refTake 32 w2.drew hR2.drew (by omega)) ?_
 rintro _ w3 ⟨⟨A, c, rfl, hown⟩, hg3, hR3⟩
 replace hg3 : w2.grownBy w3 (some g) := grownBy_trans (grownBy_drew w2 _) hg3
 have hle := rTake_leF 32 s
 have hd : rDigest s = (if (rTake 32 s).2.2 ≠ 0 then nulls 32 else (rTake 32 s).1, (rTake 32 s).2) := rfl
 have hall := rTake_allF 32 s
 have hnone := rTake_noneF 32 s
 rw [hd]
 clear hd
 rw [show (32 : Int).toNat = 32 from rfl] at hown hR3 ⊢
 generalize rTake 32 s = y at *
 obtain ⟨b, s2⟩ := y
 simp only at hown hR3 hle hall hnone ⊢
 have hB13 := hB12.grown hg3 (by intro e; injection e with e; omega)
 have hB23 := hB2.grown hg3 (by intro e; injection e with e; omega)
 refine wl_copy Tryz.u8 rfl rfl rfl hown.rd hB23 (by simp [B8, nulls]) ?_
 intro w4 hB4 hg4 hz4
 have hR4 := hR3.grown hg4 hB23 (by decide) (by omega)
 have hB14 := hB13.grown hg4 (by intro e; injection e with e; omega)
 have hcs : spl (B8 (nulls 32)) 0 (B8 (b.take 32)) = B8 (if s2.2 ≠ 0 then nulls 32 else b) := by
  split <;> rename_i h
  ·rw [hnone h]; simp [spl, B8]
  ·have hl := hall (by omega)
   rw [List.take_of_length_le (by omega)]
   exact spl_all (by rw [B8_length, hl]; simp [B8, nulls])
 rw [hcs] at hB4
 have hlen : (B8 (if s2.2 ≠ 0 then nulls 32 else b)).length = 32 := by
  rw [B8_length]
  split <;> rename_i h
  ·simp [nulls]
  ·exact hall (by omega)
 generalize (if s2.2 ≠ 0 then nulls 32 else b) = r at hB4 hlen ⊢
 refine wl_nild ?_
 refine rk_seq ?_
 refine rk_region ?_
 refine wl_r (o_loadn (cs := B8 r) Tryz.isAgg44 (by rw [hlen]; exact Tryz.sizeOf44) rfl (fun j u hu => by rw [add_plain, hB4.cell, Nat.zero_add]; exact hu)) ?_
 refine wl_store_all Tryz.sizeOf44 rfl rfl hlen (B8_oneCell' _) hB14 (by simp [B8, nulls]) ?_
 intro w5 hB5 hg5 hz5
 refine wl_nil ?_
 refine ret_cell rfl rfl Tryz.isAgg44 Tryz.sizeOf44 hB5 hlen ?_
 have hg13 : w.grownBy w3 (some g) := grownBy_trans (grownBy_of_below hb1 _) (grownBy_trans (grownBy_of_below hb2 _) hg3)
 exact ⟨rfl, grownBy_new (grownBy_new hg13 hg4 (by omega)) hg5 (by omega), hR4.grown hg5 hB14 (by decide) (by omega)⟩
end Go.Proofs.YtahkeoegbjopfaaGreat
/-
  The document's reader, in the form that the search applies.
-/
namespace Go.Proofs.YtahkeoegbjopfaaGreat
set_option maxRecDepth 100000
open Go.RowKit
section
variable {w w' : World} {g : Nat} {s : RS}
theorem Rfr.u (h : Rfr w g s) (hb : Below w.heap.size w w') : Rfr w' g s := h.below hb
theorem Rfr.at_ (h : Rfr w g s) : TyAt w g 132 := h.blk.choose_spec.at_
theorem Rfr.y {e' : TypeId} {row : Option Nat} (h : Rfr w g s) (hg : Grew w w' e' row) (hne : e' ∉ [132, 5]) : Rfr w' g s := by
 simp only [List.mem_cons, List.not_mem_nil, or_false, not_or] at hne
 obtain ⟨B, cap, A, c, l, hB, hr, h1, h2, ho, h3, h4⟩ := h
 have hT : RdT w B s.1 := ⟨hr, fun k hk => ho.h_.to_RdT.2 k (by rw [← h3]; exact hk)⟩
 exact ⟨B, cap, A, c, l, hB.y hg hne.1, (hT.y hg hne.2).1, h1, h2, (OwnH.y ho.h_ hg hne.2).o, h3, h4⟩
end
theorem grew_rfr {w w' : World} {g : Nat} {s : RS} (h : Rfr w g s) (hg : w.grownBy w' (some g)) : Grew w w' 132 (some g) := ⟨hg, fun k hk => by injection hk with hk; subst hk; exact h.at_⟩
theorem C_xfRead {A : Option Addr} {l : List UInt8} {k c : Nat} (w : World) (hr : Rd w A l) (hk : k = l.length) (hl : l.length ≤ 4000000000) :
  CallsR Tryz.prog 92 [.slice A k c] w fun v w' => ∃ g, v = .pointer (some ⟨g, 0, none⟩) ∧ w.heap.size ≤ g ∧ g < w'.heap.size ∧ Rfr w' g (l, 0) ∧ Below w.heap.size w w' :=
 (C_refRead c hk w hr (by omega)).mono fun _ _ ⟨g, hv, hg, hR, hb⟩ => ⟨g, hv, hg, hR.lt, hR, hb⟩
theorem C_xfBlock {g e e' : Nat} {l l' p : List UInt8} (w : World) (hR : Rfr w g (l, e)) (hr : BlockR l e p l' e') :
  CallsR Tryz.prog 94 [.pointer (some ⟨g, 0, none⟩)] w fun v w' => ∃ A' c', v = .slice A' p.length c' ∧ OwnH w' w.heap.size w'.heap.size A' c' p ∧ Rfr w' g (l', e') ∧ Grew w w' 132 (some g) ∧ Chg g (g + 1) w w' := by
 refine (C_refRBlock w hR).mono ?_
 rintro v w' ⟨⟨A', c', rfl, ho⟩, hg, hR2⟩
 rw [hr.h] at ho hR2 ⊢
 exact ⟨A', c', rfl, ho.h_, hR2, grew_rfr hR hg, Chg.of_g1 hg (Nat.le_refl _) (by omega)⟩
theorem C_xfWord {g e e' v : Nat} {l l' : List UInt8} {size : Int} (w : World) (hR : Rfr w g (l, e)) (hr : WordR size l e v l' e') :
  CallsR Tryz.prog 93 [.pointer (some ⟨g, 0, none⟩), .int .i64 size] w fun x w' => x = .int .u64 (v : Int) ∧ Rfr w' g (l', e') ∧ Grew w w' 132 (some g) ∧ Chg g (g + 1) w w' := by
 refine (C_refRWord size w hR).mono ?_
 rintro v w' ⟨rfl, hg, hR2⟩
 rw [hr.h] at hR2 ⊢
 exact ⟨rfl, hR2, grew_rfr hR hg, Chg.of_g1 hg (Nat.le_refl _) (by omega)⟩
theorem C_xfDigest {g e e' : Nat} {l l' p : List UInt8} (w : World) (hR : Rfr w g (l, e)) (hr : DigR l e p l' e') :
  CallsR Tryz.prog 95 [.pointer (some ⟨g, 0, none⟩)] w fun x w' => x = .agg (B8 p).toArray ∧ Rfr w' g (l', e') ∧ Grew w w' 132 (some g) ∧ Chg g (g + 1) w w' := by
 refine (C_refRDigest w hR).mono ?_
 rintro v w' ⟨rfl, hg, hR2⟩
 rw [hr.h] at hR2 ⊢
 exact ⟨rfl, hR2, grew_rfr hR hg, Chg.of_g1 hg (Nat.le_refl _) (by omega)⟩
theorem C_xfEnd {g e : Nat} {l : List UInt8} (w : World) (hR : Rfr w g (l, e)) :
  CallsR Tryz.prog 96 [.pointer (some ⟨g, 0, none⟩)] w fun v w' => v = .int .i64 (rEnd (l, e) : Nat) ∧ w' = w :=
 (C_refEnd w hR).mono fun _ _ ⟨hv, hw⟩ => ⟨hv, hw.symm⟩
end Go.Proofs.YtahkeoegbjopfaaGreat
