/-
  Walks of chapter 18: the document's answer.
-/
import Derived.Test.YtbncaabcddoicaaReoF
namespace Go.Proofs.Ytbncaabcddoicaa
open Go.RowKit

theorem C_twice {A : Option Addr} {L : List Dg} {k : Nat} (c : Nat) (hk : k = L.length) (w : World) (hr : RD w A L) (hL : L.length ≤ 4000000) :
    CallsR Try.prog 40 [.slice A k c] w fun v w' => v = .bool (!uniq L) ∧ Below w.heap.size w w' := by
  subst hk
  refine callsR Try.func40 rfl rfl (by kernel_rfl) rfl ?_
  refine rk_seq ?_
  refine rk_region ?_
  refine wl_p (fun _ => o_assign rfl) ?_
  refine wl_nil ?_
  refine rk_seq ?_
  refine rk_region ?_
  refine wl_makeMap ?_
  rintro w1 rfl hb1 hz1
  have hS1 := cntD_made w
  refine wl_p (fun _ => o_assign rfl) ?_
  refine wl_nil ?_
  refine rk_seq ?_
  refine rk_seq ?_
  refine rk_region ?_
  refine wl_p (fun _ => o_assign rfl) ?_
  refine wl_nil ?_
  refine rk_block ?_
  refine rk_joinb (fun fr w' => fr = [] ∧ uniq L = true ∧ Below w.heap.size w w') ?_ (fun ks hj => ?_)
  rotate_left
  · refine rk_loop (fun m fr w' => ∃ (i : Nat) (v : Int), fr = [(0, .slice A L.length c), (3, .map (some w.heap.size)), (4, .int .i64 v)] ∧ v = i ∧ i ≤ L.length ∧ m = L.length - i ∧ uniq (L.take i) = true ∧ CntD w' w.heap.size (L.take i) ∧ Below w.heap.size w w') (n := L.length) (by repeat' constructor)
      ⟨0, _, rfl, rfl, by omega, rfl, rfl, hS1, hb1⟩ ?_
    rintro m fr w2 ⟨i, v, rfl, rfl, hi, rfl, hu, hS2, hw2⟩
    refine rk_seq ?_
    refine rk_seq ?_
    refine rk_region ?_
    refine wl_p (fun _ => o_move rfl) ?_
    refine wl_p (fun _ => o_move rfl) ?_
    refine wl_p (fun _ => o_len (t := 23) Try.underlying23 rfl) ?_
    refine wl_p (fun _ => o_lt rfl rfl) ?_
    refine wl_nil ?_
    refine rk_if rfl (fun h => ?_) (fun h => ?_)
    · have hil : i < L.length := by omega
      obtain ⟨bb, oo, rfl, hcell⟩ := (hr.below hw2).at_ (by intro e; rw [e] at hil; simp at hil)
      have htk : L.take (i + 1) = L.take i ++ [L[i]] := by rw [List.take_succ_eq_append_getElem hil]
      have hlt : (L.take i).length = i := by rw [List.length_take]; omega
      refine rk_skip ?_
      refine rk_seq ?_
      refine rk_block ?_
      refine rk_seq ?_
      refine rk_seq ?_
      refine rk_region ?_
      refine wl_p (fun _ => o_move rfl) ?_
      refine wl_p (fun _ => o_move rfl) ?_
      refine wl_p (fun _ => o_move rfl) ?_
      refine wl_p (fun _ => o_iaddr (j := i) Try.underlying23 Try.sizeOf50 rfl rfl rfl hil) ?_
      refine wl_r (o_loadD rfl (hcell i hil)) ?_
      refine wl_r (o_lookCnt Try.underlying72 rfl rfl hS2) ?_
      refine wl_p (fun _ => o_ne rfl rfl) ?_
      refine wl_nil ?_
      refine rk_if rfl (fun h => ?_) (fun h => ?_)
      · have hin : L[i] ∈ L.take i := Classical.byContradiction fun hn => h (by rw [if_neg hn])
        have hno : uniq L = false := by
          have e : ∀ j, i < j → j ≤ L.length → uniq (L.take j) = false := by
            intro j hj hjl
            induction j with
            | zero => omega
            | succ j ih =>
              have hjl' : j < L.length := by omega
              rw [List.take_succ_eq_append_getElem hjl', uniq_snoc]
              rcases Nat.lt_or_ge i j with h5 | h5
              · rw [ih h5 (by omega)]; rfl
              · obtain rfl : i = j := by omega
                simp [hin]
          have := e L.length hil (Nat.le_refl _)
          rwa [List.take_length] at this
        refine rk_seq ?_
        refine rk_region ?_
        refine wl_p (fun _ => o_assign rfl) ?_
        refine wl_nil ?_
        refine ret1 rfl rfl ?_
        exact ⟨by rw [hno]; rfl, hw2⟩
      · have hni : L[i] ∉ L.take i := fun hn => h (by rw [if_pos hn]; decide)
        refine rk_skip ?_
        refine rk_region ?_
        refine wl_p (fun _ => o_move rfl) ?_
        refine wl_p (fun _ => o_move rfl) ?_
        refine wl_p (fun _ => o_move rfl) ?_
        refine wl_p (fun _ => o_iaddr (j := i) Try.underlying23 Try.sizeOf50 rfl rfl rfl hil) ?_
        refine wl_r (o_loadD rfl (hcell i hil)) ?_
        refine wl_cntAdd Try.underlying72 rfl rfl rfl hS2 (by omega) ?_
        intro w3 hS3 hg3 hz3
        rw [← htk] at hS3
        refine wl_nil ?_
        refine rk_blk ?_
        refine rk_region ?_
        refine wl_p (fun _ => o_move rfl) ?_
        refine wl_p (fun _ => o_add rfl rfl (by omega) (by omega)) ?_
        refine wl_p (fun _ => o_assign rfl) ?_
        refine wl_nil ?_
        exact rk_again (by repeat' constructor) ⟨i + 1, _, rfl, rfl, by omega, rfl, by rw [htk, uniq_snoc, hu]; simp [hni], hS3, hw2.trans (below_of_grownBy hg3 hw2.size (Nat.le_refl _))⟩ (by omega)
    · have e : L.take i = L := List.take_of_length_le (by omega)
      rw [e] at hu
      refine rk_exit rfl ?_
      exact rk_to hj (by repeat' constructor) ⟨rfl, hu, hw2⟩
  rintro fr w2 ⟨rfl, hu, hw2⟩
  refine rk_seq ?_
  refine rk_region ?_
  refine wl_p (fun _ => o_assign rfl) ?_
  refine wl_nil ?_
  refine ret1 rfl rfl ?_
  exact ⟨by rw [hu]; rfl, hw2⟩

theorem C_refCommon {A B : Option Addr} {a b : List Dg} {k m : Nat} (c d : Nat) (hk : k = a.length) (hm : m = b.length) (w : World) (hra : RD w A a) (hrb : RD w B b) (hla : a.length ≤ 4000000) (_hlb : b.length ≤ 4000000) :
    CallsR Try.prog 41 [.slice A k c, .slice B m d] w fun v w' => v = .int .i64 (common a b) ∧ Below w.heap.size w w' := by
  subst hk; subst hm
  refine callsR Try.func41 rfl rfl (by kernel_rfl) rfl ?_
  refine rk_seq ?_
  refine rk_region ?_
  refine wl_p (fun _ => o_assign rfl) ?_
  refine wl_nil ?_
  refine rk_seq ?_
  refine rk_region ?_
  refine wl_p (fun _ => o_assign rfl) ?_
  refine wl_nil ?_
  refine rk_seq ?_
  refine rk_block ?_
  refine rk_joinb (fun fr w' => ∃ v : Int, fr = [(5, .int .i64 v)] ∧ v = common a b ∧ Below w.heap.size w w') ?_ (fun ks hj => ?_)
  rotate_left
  · refine rk_loop (fun m fr w' => ∃ (i : Nat) (v : Int), fr = [(0, .slice A a.length c), (1, .slice B b.length d), (5, .int .i64 v)] ∧ v = i ∧ i ≤ min a.length b.length ∧ m = a.length - i ∧ a.take i = b.take i ∧ Below w.heap.size w w') (n := a.length) (by repeat' constructor)
      ⟨0, _, rfl, rfl, by omega, rfl, rfl, Below.refl _ _⟩ ?_
    rintro m fr w2 ⟨i, v, rfl, rfl, hi, rfl, ht, hw2⟩
    replace hw2 := hw2.drew
    refine rk_seq ?_
    refine rk_seq ?_
    refine rk_draw (id := 2) (none) [0, 0, 2, 5, 8, 16, 16, 80, 176, 272, 528, 1024, 1024, 7168, 9216, 1024, 1024, 99328, 132096, 279552, 525312] [0, 0, 2, 7, 15, 31, 31, 95, 255, 511, 1023, 2047, 2047, 8191, 16383, 2047, 2047, 100351, 231423, 524287, 1048575] 0 0 [(.p, 0), (.p, 1), (.p, 2), (.p, 3), (.p, 4), (.p, 5), (.p, 6), (.p, 7), (.p, 8), (.p, 9), (.p, 10), (.p, 11), (.p, 12), (.p, 13), (.r, 14), (.p, 15), (.p, 16), (.p, 17), (.r, 18), (.p, 19), (.p, 20)] (by kernel_rfl) (by kernel_rfl) (by kernel_rfl) (by kernel_rfl) (by kernel_rfl) ?_
    refine wl_p (fun _ => o_move rfl) ?_
    refine wl_p (fun _ => o_move rfl) ?_
    refine wl_p (fun _ => o_len (t := 23) Try.underlying23 rfl) ?_
    refine wl_p (fun _ => o_lt rfl rfl) ?_
    refine wl_p (fun _ => o_move rfl) ?_
    refine wl_bool 10 rfl (fun h => ?_) (fun h => ?_)
    · have hia : i < a.length := by have := of_decide_eq_true h; omega
      refine wl_p (fun _ => o_move rfl) ?_
      refine wl_p (fun _ => o_move rfl) ?_
      refine wl_p (fun _ => o_len (t := 23) Try.underlying23 rfl) ?_
      refine wl_p (fun _ => o_lt rfl rfl) ?_
      refine wl_p (fun _ => o_pick_t rfl rfl) ?_
      refine wl_p (fun _ => o_move rfl) ?_
      refine wl_bool 16 rfl (fun h => ?_) (fun h => ?_)
      · have hib : i < b.length := by have := of_decide_eq_true h; omega
        obtain ⟨b1, o1, rfl, hc1⟩ := (hra.below hw2).at_ (by intro e; rw [e] at hia; simp at hia)
        obtain ⟨b2, o2, rfl, hc2⟩ := (hrb.below hw2).at_ (by intro e; rw [e] at hib; simp at hib)
        refine wl_p (fun _ => o_move rfl) ?_
        refine wl_p (fun _ => o_move rfl) ?_
        refine wl_p (fun _ => o_iaddr (j := i) Try.underlying23 Try.sizeOf50 rfl rfl rfl hia) ?_
        refine wl_r (o_loadD rfl (hc1 i hia)) ?_
        refine wl_p (fun _ => o_move rfl) ?_
        refine wl_p (fun _ => o_move rfl) ?_
        refine wl_p (fun _ => o_iaddr (j := i) Try.underlying23 Try.sizeOf50 rfl rfl rfl hib) ?_
        refine wl_r (o_loadD rfl (hc2 i hib)) ?_
        refine wl_p (fun _ => o_deq rfl rfl) ?_
        refine wl_p (fun _ => o_pick_t rfl rfl) ?_
        refine wl_nild ?_
        refine rk_if rfl (fun h => ?_) (fun h => ?_)
        · refine rk_skip ?_
          refine rk_block ?_
          refine rk_region ?_
          refine wl_p (fun _ => o_move rfl) ?_
          refine wl_p (fun _ => o_add rfl rfl (by omega) (by omega)) ?_
          refine wl_p (fun _ => o_assign rfl) ?_
          refine wl_nil ?_
          refine rk_blk ?_
          exact rk_again (by repeat' constructor) ⟨i + 1, _, rfl, by omega, by omega, rfl, take_next hia hib ht h, hw2⟩ (by omega)
        · refine rk_exit rfl ?_
          exact rk_to hj (by repeat' constructor) ⟨_, rfl, by rw [common_ne i a b hia hib ht h], hw2⟩
      · have e : i = min a.length b.length := by have := of_decide_eq_false h; omega
        rw [e] at ht
        refine wl_off ?_
        refine wl_off ?_
        refine wl_off ?_
        refine wl_off ?_
        refine wl_off ?_
        refine wl_off ?_
        refine wl_off ?_
        refine wl_off ?_
        refine wl_off ?_
        refine wl_p (fun _ => o_pick_f rfl rfl) ?_
        refine wl_nild ?_
        refine rk_false rfl ?_
        refine rk_exit rfl ?_
        exact rk_to hj (by repeat' constructor) ⟨_, rfl, by rw [common_end a b ht, e], hw2⟩
    · have e : i = min a.length b.length := by have := of_decide_eq_false h; omega
      rw [e] at ht
      refine wl_off ?_
      refine wl_off ?_
      refine wl_off ?_
      refine wl_off ?_
      refine wl_p (fun _ => o_pick_f rfl rfl) ?_
      refine wl_p (fun _ => o_move rfl) ?_
      refine wl_off ?_
      refine wl_off ?_
      refine wl_off ?_
      refine wl_off ?_
      refine wl_off ?_
      refine wl_off ?_
      refine wl_off ?_
      refine wl_off ?_
      refine wl_off ?_
      refine wl_p (fun _ => o_pick_f rfl rfl) ?_
      refine wl_nild ?_
      refine rk_false rfl ?_
      refine rk_exit rfl ?_
      exact rk_to hj (by repeat' constructor) ⟨_, rfl, by rw [common_end a b ht, e], hw2⟩
  rintro fr w2 ⟨v, rfl, rfl, hw2⟩
  refine rk_seq ?_
  refine rk_region ?_
  refine wl_p (fun _ => o_move rfl) ?_
  refine wl_p (fun _ => o_assign rfl) ?_
  refine wl_nil ?_
  refine ret1 rfl rfl ?_
  exact ⟨rfl, hw2⟩
end Go.Proofs.Ytbncaabcddoicaa
