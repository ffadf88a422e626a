/-
  Walks of chapter 18: the document's From.
-/
import Derived.Test.YtbncaabcddoicaaReoG
namespace Go.Proofs.Ytbncaabcddoicaa
open Go.RowKit

theorem C_refFrom {A B : Option Addr} {a b : List Dg} {k m : Nat} (c d : Nat) (hk : k = a.length) (hm : m = b.length) (w : World) (hra : RD w A a) (hrb : RD w B b) (hla : a.length ≤ 2000000) (hlb : b.length ≤ 2000000) (hc : a.length ≤ c) (hd : b.length ≤ d) :
    CallsR Try.prog 24 [.slice A k c, .slice B m d] w fun v w' => ∃ u, v = .tuple #[u, .int .i64 (pFrom a b).2] ∧ PlO w' w.heap.size (pFrom a b).1 u ∧ Below w.heap.size w w' := by
  subst hk; subst hm
  obtain ⟨hc1, hc2⟩ := common_le a b
  refine callsR Try.func24 rfl rfl (by kernel_rfl) rfl ?_
  refine rk_seq ?_
  refine rk_region ?_
  refine wl_alloc pl0c Try.zeroValue25 rfl ?_
  intro w1 hB1 hb1 hz1
  refine wl_p (fun _ => o_assign rfl) ?_
  refine wl_nil ?_
  refine rk_seq ?_
  refine rk_seq ?_
  refine rk_region ?_
  refine wl_p (fun _ => o_move rfl) ?_
  refine wl_call rfl (C_twice c rfl w1 (hra.below hb1) (by omega)) ?_
  rintro _ w2 ⟨rfl, hb2⟩
  have hw2 := hb1.trans (hb2.mono hb1.size)
  have hB2 := hB1.under hb2
  refine wl_p (fun _ => o_move rfl) ?_
  refine wl_bool 9 rfl (fun h => ?_) (fun h => ?_)
  · have e : pFrom a b = (pl0, 2) := by unfold pFrom; rw [if_neg (by simp [show uniq a = false by simpa using h])]
    rw [e]
    refine wl_off ?_
    refine wl_off ?_
    refine wl_p (fun _ => o_pick_t rfl rfl) ?_
    refine wl_nil ?_
    refine rk_true rfl ?_
    refine rk_seq ?_
    refine rk_region ?_
    refine wl_p (fun _ => o_build (is := []) (xs := []) (vs := []) rfl Try.build_Plan0) ?_
    refine wl_store_all Try.sizeOf25 rfl rfl rfl (fun u hu => by simp at hu; rcases hu with rfl | rfl | rfl <;> rfl) hB2 rfl ?_
    intro w4 hB4 hg4 hz4
    refine wl_p (fun _ => o_assign rfl) ?_
    refine wl_nil ?_
    refine ret_cell_tmp rfl rfl rfl Try.isAgg25 Try.sizeOf25 hB4 rfl ?_
    exact ⟨_, rfl, PlO.zero _ _, hw2.trans (below_of_grownBy hg4 hw2.size (Nat.le_refl _))⟩
  have ha : uniq a = true := by simpa using h
  refine wl_p (fun _ => o_move rfl) ?_
  refine wl_call rfl (C_twice d rfl w2 (hrb.below hw2) (by omega)) ?_
  rintro _ w3 ⟨rfl, hb3⟩
  have hw3 := hw2.trans (hb3.mono hw2.size)
  have hB3 := hB2.under hb3
  refine wl_p (fun _ => o_pick_f rfl rfl) ?_
  refine wl_nil ?_
  refine rk_cond rfl (fun h => ?_) (fun h => ?_)
  · have e : pFrom a b = (pl0, 2) := by unfold pFrom; rw [if_neg (by simp [show uniq b = false by simpa using h])]
    rw [e]
    refine rk_seq ?_
    refine rk_region ?_
    refine wl_p (fun _ => o_build (is := []) (xs := []) (vs := []) rfl Try.build_Plan0) ?_
    refine wl_store_all Try.sizeOf25 rfl rfl rfl (fun u hu => by simp at hu; rcases hu with rfl | rfl | rfl <;> rfl) hB3 rfl ?_
    intro w4 hB4 hg4 hz4
    refine wl_p (fun _ => o_assign rfl) ?_
    refine wl_nil ?_
    refine ret_cell_tmp rfl rfl rfl Try.isAgg25 Try.sizeOf25 hB4 rfl ?_
    exact ⟨_, rfl, PlO.zero _ _, hw3.trans (below_of_grownBy hg4 hw3.size (Nat.le_refl _))⟩
  have hb : uniq b = true := by simpa using h
  have e : pFrom a b = (⟨common a b, a.drop (common a b), b.drop (common a b)⟩, 0) := by unfold pFrom; rw [if_pos (by simp [ha, hb])]
  rw [e]
  refine rk_skip ?_
  refine rk_seq ?_
  refine rk_region ?_
  refine wl_p (fun _ => o_move rfl) ?_
  refine wl_p (fun _ => o_move rfl) ?_
  refine wl_call rfl (C_refCommon c d rfl rfl w3 (hra.below hw3) (hrb.below hw3) (by omega) (by omega)) ?_
  rintro _ w4 ⟨rfl, hb4⟩
  have hw4 := hw3.trans (hb4.mono hw3.size)
  have hB4 := hB3.under hb4
  have s14 : w1.heap.size ≤ w4.heap.size := by have := hb2.size; have := hb3.size; have := hb4.size; omega
  have s01 : w.heap.size ≤ w1.heap.size := by omega
  have hdr : Below w1.heap.size w4 w4.drew := (Below.refl _ w4).drew
  generalize common a b = n at *
  refine wl_p (fun _ => o_assign rfl) ?_
  refine wl_nil ?_
  refine rk_seq ?_
  refine rk_drawo (id := 4) (none) [0, 0, 0, 0, 12, 18, 0, 0, 0, 384, 608, 1057, 4095, 8191] [0, 0, 0, 0, 12, 30, 0, 0, 0, 384, 1022, 2047, 4095, 8191] 5218 0 [0, 2, 3, 4, 7, 8, 9] [(.p, 0), (.p, 2), (.p, 3), (.p, 4), (.p, 7), (.p, 8), (.p, 9), (.f 925 5218 0, 7)] (by kernel_rfl) (by kernel_rfl) (by kernel_rfl) (by kernel_rfl) (by kernel_rfl) ?_
  dsimp only [inOrder, nthOp]
  refine wl_p (fun _ => o_move rfl) ?_
  refine wl_p (fun _ => o_move rfl) ?_
  refine wl_p (fun _ => o_move rfl) ?_
  refine wl_p (fun _ => o_slice_lo (lo := n) Try.underlying23 Try.sizeOf50 rfl rfl rfl hc1) ?_
  refine wl_p (fun _ => o_move rfl) ?_
  refine wl_p (fun _ => o_move rfl) ?_
  refine wl_p (fun _ => o_slice_lo (lo := n) Try.underlying23 Try.sizeOf50 rfl rfl rfl hc2) ?_
  refine wl_fork2j (m := 925) (L := 5218) (C := 0) (n := 7) (k1 := 1) (k2 := 6) (fun fr w' => ∃ A5 c5 A6, fr = [(4, .pointer (some ⟨w.heap.size, 0, none⟩)), (17, .int .i64 n), (22, .slice A5 (a.drop n).length c5), (23, .slice A6 0 0), (26, .slice (cutA B d 32 n) (b.length - n) (d - n))] ∧ OwnD w' w1.heap.size A5 c5 (a.drop n) ∧ OwnD w' w1.heap.size A6 0 [] ∧ blk A5 ≠ blk A6 ∧ Below w1.heap.size w4 w') [0, 0, 0, 0, 12, 18, 0, 0, 0, 384, 608, 1057, 4095, 8191] [0, 0, 0, 0, 12, 30, 0, 0, 0, 384, 1022, 2047, 4095, 8191] [1] [6, 1, 5, 10, 11, 12, 13] [10, 11, 12, 13] [(.f 927 5218 0, 6)] [(.l, 1), (.l, 5), (.l, 10), (.p, 11), (.l, 12), (.p, 13)] [(.l, 10), (.p, 11), (.l, 12), (.p, 13)] (by kernel_rfl) (by kernel_rfl) (by kernel_rfl) (by kernel_rfl) (by kernel_rfl) ?_ (fun hj => ?_) (fun hj => ?_) <;> dsimp only [inOrder, nthOp]
  · rintro fr w5 ⟨A5, c5, A6, rfl, hown5, hown6, hne, hb5⟩
    have hw5 : Below w.heap.size w w5 := hw4.trans (hb5.mono s01)
    have hB5 := hB4.below hb5 (by omega)
    refine wl_appD (L := []) (M := b.drop n) rfl rfl hown6 rfl (by simp) ((hrb.below hw5).cut hc2 hd) (by simp; omega) (Nat.le_trans s14 hb5.size) ?_
    intro A7 c7 w7 hown7 hg7 hk7 hb7
    have hw7 := hw5.trans (hb7.mono s01)
    have hown57 := hown5.kept hg7 (.inr hne)
    rw [List.nil_append] at hown7 ⊢
    refine wl_p (fun _ => o_build (is := [0, 1, 2]) (xs := [.tmp 17, .tmp 22, .tmp 27]) rfl (fun w => Try.build_Plan _ _ _ _ _ _ _ _ _ _ rfl rfl rfl w)) ?_
    refine wl_store_all Try.sizeOf25 rfl rfl rfl (fun u hu => by simp at hu; rcases hu with rfl | rfl | rfl <;> rfl) (hB5.below hb7 (by omega)) rfl ?_
    intro w8 hB8 hg8 hz8
    refine wl_p (fun _ => o_assign rfl) ?_
    refine wl_nild ?_
    refine ret_cell_tmp rfl rfl rfl Try.isAgg25 Try.sizeOf25 hB8 rfl ?_
    have hne5 : blk A5 = none ∨ blk A5 ≠ some w.heap.size := .inr fun e => by have := (hown57.lt _ e).1; omega
    have hne7 : blk A7 = none ∨ blk A7 ≠ some w.heap.size := .inr fun e => by have := (hown7.lt _ e).1; omega
    exact ⟨_, rfl, ⟨A5, c5, A7, c7, rfl, (hown57.kept hg8 hne5).base (by omega), (hown7.kept hg8 hne7).base (by omega)⟩, hw7.trans (below_of_grownBy hg8 hw7.size (Nat.le_refl _))⟩
  · refine wl_litD (xs := []) [] 0 rfl rfl rfl ?_
    intro w5 hown5 hb5 hz5
    have h45 : w4.heap.size ≤ w5.heap.size := Nat.le_of_lt (by rw [hz5]; exact Nat.lt_succ_self _)
    replace hb5 := hdr.trans (hb5.mono s14)
    replace hown5 : OwnD w5 w4.heap.size (some ⟨w4.heap.size, 0, none⟩) 0 [] := hown5 _ (Nat.le_refl _)
    replace hz5 : w5.heap.size = w4.heap.size + 1 := hz5
    refine wl_fork2j (m := 927) (L := 5218) (C := 0) (n := 6) (k1 := 5) (k2 := 6) (fun fr w' => ∃ A5 c5 A6, fr = [(4, .pointer (some ⟨w.heap.size, 0, none⟩)), (17, .int .i64 n), (22, .slice A5 (a.drop n).length c5), (23, .slice A6 0 0), (26, .slice (cutA B d 32 n) (b.length - n) (d - n))] ∧ OwnD w' w1.heap.size A5 c5 (a.drop n) ∧ OwnD w' w1.heap.size A6 0 [] ∧ blk A5 ≠ blk A6 ∧ Below w1.heap.size w4 w') [0, 0, 0, 0, 12, 18, 0, 0, 0, 384, 608, 1057, 4095, 8191] [0, 0, 0, 0, 12, 30, 0, 0, 0, 384, 1022, 2047, 4095, 8191] [5, 6, 10, 11, 12, 13] [6, 5, 10, 11, 12, 13] [10, 11, 12, 13] [(.l, 6), (.l, 10), (.p, 11), (.l, 12), (.p, 13)] [(.l, 5), (.l, 10), (.p, 11), (.l, 12), (.p, 13)] [(.l, 10), (.p, 11), (.l, 12), (.p, 13)] (by kernel_rfl) (by kernel_rfl) (by kernel_rfl) (by kernel_rfl) (by kernel_rfl) ?_ (fun hj => ?_) (fun hj => ?_) <;> dsimp only [inOrder, nthOp]
    · exact fun fr w' h => hj fr w' h
    · refine wl_appD (L := []) (M := a.drop n) rfl rfl hown5 rfl (by simp) ((hra.below (hw4.trans (hb5.mono s01))).cut hc1 hc) (by simp; omega) h45 ?_
      intro A7 c7 w7 hown7 hg7 hk7 hb7
      rw [List.nil_append] at hown7 ⊢
      refine wl_litD (xs := []) [] 0 rfl rfl rfl ?_
      intro w8 hown8 hb8 hz8
      have h17 : w1.heap.size ≤ w7.heap.size := Nat.le_trans s14 (Nat.le_trans h45 hg7.size)
      exact wl_to hj (by repeat' constructor) ⟨A7, c7, _, rfl, (hown7.below hb8).base s14, hown8 _ h17, fun e => Nat.lt_irrefl _ (hown7.lt _ e).2, hb5.trans ((hb7.mono s14).trans (hb8.mono h17))⟩
    · refine wl_litD (xs := []) [] 0 rfl rfl rfl ?_
      intro w6 hown6 hb6 hz6
      replace hown6 := hown6 w1.heap.size (Nat.le_trans s14 h45)
      have hb46 := hb5.trans (hb6.mono (Nat.le_trans s14 h45))
      refine wl_appD (L := []) (M := a.drop n) rfl rfl (hown5.below hb6) rfl (by simp) ((hra.below (hw4.trans (hb46.mono s01))).cut hc1 hc) (by simp; omega) (by omega) ?_
      intro A7 c7 w7 hown7 hg7 hk7 hb7
      rw [List.nil_append] at hown7 ⊢
      have hne : blk A7 ≠ some w5.heap.size := by
        rcases hk7 with e | e
        · rw [e]; intro e2; have e2 : some w4.heap.size = some w5.heap.size := e2; injection e2 with e2; omega
        · rw [e]; intro e2; injection e2 with e2; omega
      exact wl_to hj (by repeat' constructor) ⟨A7, c7, _, rfl, hown7.base s14, hown6.kept hg7 (.inr (fun e => by have e : some w5.heap.size = some w4.heap.size := e; injection e with e; omega)), hne, hb46.trans (hb7.mono s14)⟩
  · refine wl_litD (xs := []) [] 0 rfl rfl rfl ?_
    intro w5 hown5 hb5 hz5
    have h45 : w4.heap.size ≤ w5.heap.size := Nat.le_of_lt (by rw [hz5]; exact Nat.lt_succ_self _)
    replace hb5 := hdr.trans (hb5.mono s14)
    replace hown5 : OwnD w5 w1.heap.size (some ⟨w4.heap.size, 0, none⟩) 0 [] := hown5 _ s14
    replace hz5 : w5.heap.size = w4.heap.size + 1 := hz5
    refine wl_litD (xs := []) [] 0 rfl rfl rfl ?_
    intro w6 hown6 hb6 hz6
    replace hown6 := hown6 w5.heap.size (Nat.le_refl _)
    have hb46 := hb5.trans (hb6.mono (Nat.le_trans s14 h45))
    refine wl_appD (L := []) (M := a.drop n) rfl rfl hown6 rfl (by simp) ((hra.below (hw4.trans (hb46.mono s01))).cut hc1 hc) (by simp; omega) (by omega) ?_
    intro A7 c7 w7 hown7 hg7 hk7 hb7
    rw [List.nil_append] at hown7 ⊢
    have hne : blk A7 ≠ some w4.heap.size := by
      rcases hk7 with e | e
      · rw [e]; intro e2; have e2 : some w5.heap.size = some w4.heap.size := e2; injection e2 with e2; omega
      · rw [e]; intro e2; injection e2 with e2; omega
    exact wl_to hj (by repeat' constructor) ⟨A7, c7, _, rfl, hown7.base (Nat.le_trans s14 h45), (hown5.below hb6).kept hg7 (.inr (fun e => by have e : some w4.heap.size = some w5.heap.size := e; injection e with e; omega)), hne, hb46.trans (hb7.mono (Nat.le_trans s14 h45))⟩
end Go.Proofs.Ytbncaabcddoicaa
