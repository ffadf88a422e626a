/-
  Walks of chapter 18's program: Then, Same; of the kit: names, copies, comparisons.
-/
import Derived.Test.YtbncaabcddoicaaReoE
namespace Go.Proofs.Ytbncaabcddoicaa
open Go.RowKit

theorem pApply_len (p : Pl) (old : List Dg) : (pApply p old).1.length ≤ old.length + p.doo.length := by
  unfold pApply
  split
  · simp
  · split <;> simp; omega
def pThen (p q : Pl) (old : List Dg) : Pl × Nat :=
  if (pApply p old).2 ≠ 0 then (pl0, (pApply p old).2) else if (pApply q (pApply p old).1).2 ≠ 0 then (pl0, (pApply q (pApply p old).1).2) else pFrom old (pApply q (pApply p old).1).1
theorem C_Then {p q : Pl} {v u : Value} {C : Option Addr} {old : List Dg} {k : Nat} (e : Nat) (hk : k = old.length) (w : World) (hp : PlV w p v) (hq : PlV w q u) (hlp : lim p) (hlq : lim q) (hC : RD w C old) (hle : old.length ≤ e) (hlo : old.length ≤ 1000000) :
    CallsR Try.prog 23 [v, u, .slice C k e] w fun v w' => ∃ u, v = .tuple #[u, .int .i64 (pThen p q old).2] ∧ PlO w' w.heap.size (pThen p q old).1 u ∧ Below w.heap.size w w' := by
  subst hk
  obtain ⟨vs, rfl, hvl, hv1⟩ := hp.cells
  obtain ⟨us, rfl, hul, hu1⟩ := hq.cells
  have hlen1 := pApply_len p old
  have hlen2 := pApply_len q (pApply p old).1
  have hd1 := hlp.2
  have hd2 := hlq.2
  unfold pThen
  refine callsR Try.func23 rfl rfl (by kernel_rfl) rfl ?_
  refine rk_seq ?_
  refine rk_region ?_
  refine wl_box vs rfl rfl ?_
  intro w1 hB1 hb1 hz1
  refine wl_box us rfl rfl ?_
  intro w2 hB2 hb2 hz2
  refine wl_alloc pl0c Try.zeroValue25 rfl ?_
  intro w3 hB3 hb3 hz3
  have hw2 := hb1.trans (hb2.mono hb1.size)
  have hw3 := hw2.trans (hb3.mono hw2.size)
  have hB13 := (hB1.under hb2).under hb3
  have hB23 := hB2.under hb3
  refine wl_p (fun _ => o_assign rfl) ?_
  refine wl_nil ?_
  refine rk_seq ?_
  refine rk_region ?_
  refine wl_r (o_load_all (t := 25) Try.isAgg25 Try.sizeOf25 rfl hB13 hvl) ?_
  refine wl_p (fun _ => o_move rfl) ?_
  refine wl_call rfl (C_Apply e rfl w3 (hp.below hw3) hlp (hC.below hw3) hle (by omega)) ?_
  rintro _ w4 ⟨A4, c4, rfl, hown4, hb4⟩
  have hw4 := hw3.trans (hb4.mono hw3.size)
  have hB24 := hB23.under hb4
  have hB34 := hB3.under hb4
  generalize hr : pApply p old = r at *
  obtain ⟨l1, e1⟩ := r
  simp only at *
  refine wl_p (fun _ => o_move rfl) ?_
  refine wl_p (fun _ => o_ext20 rfl) ?_
  refine wl_p (fun _ => o_ext21 rfl) ?_
  refine wl_p (fun _ => o_assign rfl) ?_
  refine wl_p (fun _ => o_assign rfl) ?_
  refine wl_nil ?_
  refine rk_seq ?_
  refine rk_seq ?_
  refine rk_region ?_
  refine wl_p (fun _ => o_move rfl) ?_
  refine wl_p (fun _ => o_eq rfl rfl) ?_
  refine wl_nil ?_
  refine rk_if rfl (fun h => ?_) (fun h => ?_)
  · obtain rfl : e1 = 0 := by omega
    rw [if_neg (by simp)]
    refine rk_region ?_
    refine wl_r (o_load_all (t := 25) Try.isAgg25 Try.sizeOf25 rfl hB24 hul) ?_
    refine wl_p (fun _ => o_move rfl) ?_
    refine wl_call rfl (C_Apply c4 rfl w4 (hq.below hw4) hlq hown4.rd hown4.cap (by omega)) ?_
    rintro _ w5 ⟨A5, c5, rfl, hown5, hb5⟩
    have hw5 := hw4.trans (hb5.mono hw4.size)
    have hB35 := hB34.under hb5
    generalize hr2 : pApply q l1 = r at *
    obtain ⟨l2, e2⟩ := r
    simp only at *
    refine wl_p (fun _ => o_move rfl) ?_
    refine wl_p (fun _ => o_ext20 rfl) ?_
    refine wl_p (fun _ => o_ext21 rfl) ?_
    refine wl_p (fun _ => o_assign rfl) ?_
    refine wl_p (fun _ => o_assign rfl) ?_
    refine wl_nil ?_
    refine rk_seq ?_
    refine rk_seq ?_
    refine rk_region ?_
    refine wl_p (fun _ => o_move rfl) ?_
    refine wl_p (fun _ => o_ne rfl rfl) ?_
    refine wl_nil ?_
    refine rk_if rfl (fun h => ?_) (fun h => ?_)
    · rw [if_pos (by omega)]
      refine rk_seq ?_
      refine rk_region ?_
      refine wl_p (fun _ => o_build (is := []) (xs := []) (vs := []) rfl Try.build_Plan0) ?_
      refine wl_p (fun _ => o_move rfl) ?_
      refine wl_store_all Try.sizeOf25 rfl rfl rfl (fun u hu => by simp at hu; rcases hu with rfl | rfl | rfl <;> rfl) hB35 rfl ?_
      intro w6 hB6 hg6 hz6
      refine wl_p (fun _ => o_assign rfl) ?_
      refine wl_nil ?_
      refine ret_cell_tmp rfl rfl rfl Try.isAgg25 Try.sizeOf25 hB6 rfl ?_
      exact ⟨_, rfl, PlO.zero _ _, hw5.trans (below_of_grownBy hg6 hw5.size (by omega))⟩
    · rw [if_neg (by omega)]
      refine rk_skip ?_
      refine rk_seq ?_
      refine rk_region ?_
      refine wl_p (fun _ => o_move rfl) ?_
      refine wl_p (fun _ => o_move rfl) ?_
      refine wl_call rfl (C_From e c5 rfl rfl w5 (hC.below hw5) hown5.rd (by omega) (by omega) hle hown5.cap) ?_
      rintro _ w6 ⟨u6, rfl, hP6, hb6⟩
      have hw6 := hw5.trans (hb6.mono hw5.size)
      obtain ⟨xs, rfl, hxl, hx1⟩ := hP6.cells
      refine wl_p (fun _ => o_ext20 rfl) ?_
      refine wl_p (fun _ => o_ext21 rfl) ?_
      refine wl_store_all Try.sizeOf25 rfl rfl hxl hx1 (hB35.under hb6) rfl ?_
      intro w7 hB7 hg7 hz7
      refine wl_p (fun _ => o_assign rfl) ?_
      refine wl_nil ?_
      refine ret_cell_tmp rfl rfl rfl Try.isAgg25 Try.sizeOf25 hB7 hxl ?_
      have h25 : w2.heap.size < w5.heap.size := by have := hb4.size; have := hb5.size; omega
      exact ⟨_, rfl, (hP6.kept hg7 h25).base hw5.size, hw6.trans (below_of_grownBy hg7 hw6.size (by omega))⟩
  · rw [if_pos (by omega)]
    refine rk_skip ?_
    refine rk_seq ?_
    refine rk_seq ?_
    refine rk_region ?_
    refine wl_p (fun _ => o_move rfl) ?_
    refine wl_p (fun _ => o_ne rfl rfl) ?_
    refine wl_nil ?_
    refine rk_if rfl (fun h => ?_) (fun h2 => by exact absurd (by omega) h2)
    refine rk_seq ?_
    refine rk_region ?_
    refine wl_p (fun _ => o_build (is := []) (xs := []) (vs := []) rfl Try.build_Plan0) ?_
    refine wl_p (fun _ => o_move rfl) ?_
    refine wl_store_all Try.sizeOf25 rfl rfl rfl (fun u hu => by simp at hu; rcases hu with rfl | rfl | rfl <;> rfl) hB34 rfl ?_
    intro w6 hB6 hg6 hz6
    refine wl_p (fun _ => o_assign rfl) ?_
    refine wl_nil ?_
    refine ret_cell_tmp rfl rfl rfl Try.isAgg25 Try.sizeOf25 hB6 rfl ?_
    exact ⟨_, rfl, PlO.zero _ _, hw4.trans (below_of_grownBy hg6 hw4.size (by omega))⟩

theorem C_Same {p q : Pl} {v u : Value} (w : World) (hp : PlV w p v) (hq : PlV w q u) (hlp : lim p) (hlq : lim q) :
    CallsR Try.prog 20 [v, u] w fun v w' => v = .bool (decide (p = q)) ∧ Below w.heap.size w w' := by
  obtain ⟨A, c, B, d, rfl, hA, hB, hc, hd⟩ := hp
  obtain ⟨A', c', B', d', rfl, hA', hB', hc', hd'⟩ := hq
  obtain ⟨h1, h2⟩ := hlp
  obtain ⟨h3, h4⟩ := hlq
  obtain ⟨kp, L, M⟩ := p
  obtain ⟨kq, L', M'⟩ := q
  simp only at *
  refine callsR Try.func20 rfl rfl (by kernel_rfl) rfl ?_
  refine rk_seq ?_
  refine rk_region ?_
  refine wl_box [.int .i64 kp, .slice A L.length c, .slice B M.length d] rfl rfl ?_
  intro w1 hB1 hb1 hz1
  refine wl_box [.int .i64 kq, .slice A' L'.length c', .slice B' M'.length d'] rfl rfl ?_
  intro w2 hB2 hb2 hz2
  have hw2 := hb1.trans (hb2.mono hb1.size)
  have hB12 := hB1.under hb2
  refine wl_p (fun _ => o_assign rfl) ?_
  refine wl_nil ?_
  refine rk_seq ?_
  refine rk_region ?_
  refine wl_p (fun _ => o_faddr (s := 25) (i := 0) (off := 0) Try.underlying25 rfl Try.sizeOf3 rfl rfl rfl) ?_
  refine wl_r (o_loadb (t := 3) Try.isAgg3 rfl hB12 (by rfl)) ?_
  refine wl_p (fun _ => o_faddr (s := 25) (i := 0) (off := 0) Try.underlying25 rfl Try.sizeOf3 rfl rfl rfl) ?_
  refine wl_r (o_loadb (t := 3) Try.isAgg3 rfl hB2 (by rfl)) ?_
  refine wl_p (fun _ => o_eq rfl rfl) ?_
  refine wl_p (fun _ => o_move rfl) ?_
  refine wl_bool 10 rfl (fun h => ?_) (fun h => ?_)
  · obtain rfl : kp = kq := of_decide_eq_true h
    refine wl_p (fun _ => o_faddr (s := 25) (i := 1) (off := 1) Try.underlying25 rfl Try.sizeOf23 rfl rfl rfl) ?_
    refine wl_r (o_loadb (t := 23) Try.isAgg23 rfl hB12 (by rfl)) ?_
    refine wl_p (fun _ => o_faddr (s := 25) (i := 1) (off := 1) Try.underlying25 rfl Try.sizeOf23 rfl rfl rfl) ?_
    refine wl_r (o_loadb (t := 23) Try.isAgg23 rfl hB2 (by rfl)) ?_
    refine wl_call rfl (C_linSame c c' rfl rfl w2 (hA.below hw2) (hA'.below hw2) (by omega) (by omega)) ?_
    rintro _ w3 ⟨rfl, hb3⟩
    have hw3 := hw2.trans (hb3.mono hw2.size)
    have hB13 := hB12.under hb3
    have hB23 := hB2.under hb3
    refine wl_p (fun _ => o_pick_t rfl rfl) ?_
    refine wl_p (fun _ => o_move rfl) ?_
    refine wl_bool 17 rfl (fun h => ?_) (fun h => ?_)
    · obtain rfl : L = L' := of_decide_eq_true h
      refine wl_p (fun _ => o_faddr (s := 25) (i := 2) (off := 2) Try.underlying25 rfl Try.sizeOf23 rfl rfl rfl) ?_
      refine wl_r (o_loadb (t := 23) Try.isAgg23 rfl hB13 (by rfl)) ?_
      refine wl_p (fun _ => o_faddr (s := 25) (i := 2) (off := 2) Try.underlying25 rfl Try.sizeOf23 rfl rfl rfl) ?_
      refine wl_r (o_loadb (t := 23) Try.isAgg23 rfl hB23 (by rfl)) ?_
      refine wl_call rfl (C_linSame d d' rfl rfl w3 (hB.below hw3) (hB'.below hw3) (by omega) (by omega)) ?_
      rintro _ w4 ⟨rfl, hb4⟩
      refine wl_p (fun _ => o_pick_t rfl rfl) ?_
      refine wl_p (fun _ => o_assign rfl) ?_
      refine wl_nil ?_
      refine ret1 rfl rfl ?_
      exact ⟨congrArg Value.bool (by rw [Bool.eq_iff_iff]; simp), hw3.trans (hb4.mono hw3.size)⟩
    · have hne : L ≠ L' := of_decide_eq_false h
      refine wl_off ?_
      refine wl_off ?_
      refine wl_off ?_
      refine wl_off ?_
      refine wl_off ?_
      refine wl_p (fun _ => o_pick_f rfl rfl) ?_
      refine wl_p (fun _ => o_assign rfl) ?_
      refine wl_nil ?_
      refine ret1 rfl rfl ?_
      exact ⟨congrArg Value.bool (by symm; exact decide_eq_false (fun e => hne (by injection e))), hw3⟩
  · have hne : kp ≠ kq := of_decide_eq_false h
    refine wl_off ?_
    refine wl_off ?_
    refine wl_off ?_
    refine wl_off ?_
    refine wl_off ?_
    refine wl_p (fun _ => o_pick_f rfl rfl) ?_
    refine wl_p (fun _ => o_move rfl) ?_
    refine wl_off ?_
    refine wl_off ?_
    refine wl_off ?_
    refine wl_off ?_
    refine wl_off ?_
    refine wl_p (fun _ => o_pick_f rfl rfl) ?_
    refine wl_p (fun _ => o_assign rfl) ?_
    refine wl_nil ?_
    refine ret1 rfl rfl ?_
    exact ⟨congrArg Value.bool (by symm; exact decide_eq_false (fun e => hne (by injection e))), hw2⟩
end Go.Proofs.Ytbncaabcddoicaa
