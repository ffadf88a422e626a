/-
  Walks of chapter 18's program: common parts, equal lists, copies, drafts.
-/
import Derived.Test.YtbncaabcddoicaaReoA
namespace Go.Proofs.Ytbncaabcddoicaa
open Go.RowKit

/-- How many names two lists have in common at their start. -/
def common : List Dg → List Dg → Nat
  | a :: x, b :: y => if a = b then common x y + 1 else 0
  | _, _ => 0
theorem common_ne : ∀ (i : Nat) (a b : List Dg) (hi : i < a.length) (hj : i < b.length), a.take i = b.take i → a[i] ≠ b[i] → common a b = i
  | 0, x :: a, y :: b, _, _, _, h => by simp only [List.getElem_cons_zero] at h; simp [common, h]
  | i + 1, x :: a, y :: b, hi, hj, ht, h => by
    simp only [List.take_succ_cons, List.cons.injEq] at ht
    simp only [List.length_cons] at hi hj
    have := common_ne i a b (by omega) (by omega) ht.2 (by simpa using h)
    simp [common, ht.1, this]
theorem common_end : ∀ (a b : List Dg), a.take (min a.length b.length) = b.take (min a.length b.length) → common a b = min a.length b.length
  | [], b, _ => by simp [common]
  | a :: x, [], _ => by simp [common]
  | a :: x, b :: y, h => by
    simp only [List.length_cons, Nat.add_min_add_right, List.take_succ_cons, List.cons.injEq] at h ⊢
    simp [common, h.1, common_end x y h.2]
theorem take_next {a b : List Dg} {i : Nat} (hi : i < a.length) (hj : i < b.length) (h : a.take i = b.take i) (h2 : a[i] = b[i]) : a.take (i + 1) = b.take (i + 1) := by
  rw [List.take_succ_eq_append_getElem hi, List.take_succ_eq_append_getElem hj, h, h2]
theorem common_le (a b : List Dg) : common a b ≤ a.length ∧ common a b ≤ b.length := by
  induction a generalizing b with
  | nil => simp [common]
  | cons x a ih =>
    cases b with
    | nil => simp [common]
    | cons y b =>
      have := ih b
      simp only [common, List.length_cons]
      split <;> omega

theorem C_Common {A B : Option Addr} {a b : List Dg} {k m : Nat} (c d : Nat) (hk : k = a.length) (hm : m = b.length) (w : World) (hra : RD w A a) (hrb : RD w B b) (hla : a.length ≤ 4000000) (_hlb : b.length ≤ 4000000) :
    CallsR Try.prog 34 [.slice A k c, .slice B m d] w fun v w' => v = .int .i64 (common a b) ∧ Below w.heap.size w w' := by
  subst hk; subst hm
  refine callsR Try.func34 rfl rfl (by kernel_rfl) rfl ?_
  refine rk_seq ?_
  refine rk_region ?_
  refine wl_p (fun _ => o_assign rfl) ?_
  refine wl_nil ?_
  refine rk_seq ?_
  refine rk_seq ?_
  refine rk_region ?_
  refine wl_p (fun _ => o_move rfl) ?_
  refine wl_p (fun _ => o_len (t := 23) Try.underlying23 rfl) ?_
  refine wl_p (fun _ => o_move rfl) ?_
  refine wl_p (fun _ => o_len (t := 23) Try.underlying23 rfl) ?_
  refine wl_p (fun _ => o_min rfl rfl) ?_
  refine wl_p (fun _ => o_move rfl) ?_
  refine wl_nil ?_
  refine rk_block ?_
  refine rk_joinb (fun fr w' => fr = [(0, .slice A a.length c), (1, .slice B b.length d)] ∧ a.take (min a.length b.length) = b.take (min a.length b.length) ∧ Below w.heap.size w w') ?_ (fun ks hj => ?_)
  rotate_left
  · refine rk_loop (fun m fr w' => ∃ (i : Nat) (v : Int), fr = [(0, .slice A a.length c), (1, .slice B b.length d), (10, .int .i64 (min (a.length : Int) b.length)), (11, .int .i64 v)] ∧ v = i ∧ i ≤ min a.length b.length ∧ m = a.length - i ∧ a.take i = b.take i ∧ Below w.heap.size w w') (n := a.length) (by repeat' constructor)
      ⟨0, _, rfl, rfl, by omega, rfl, rfl, Below.refl _ _⟩ ?_
    rintro m fr w2 ⟨i, v, rfl, rfl, hi, rfl, ht, hw2⟩
    refine rk_seq ?_
    refine rk_region ?_
    refine wl_p (fun _ => o_lt rfl rfl) ?_
    refine wl_nil ?_
    refine rk_seq ?_
    refine rk_if rfl (fun h => ?_) (fun h => ?_)
    · have hia : i < a.length := by omega
      have hib : i < b.length := by omega
      obtain ⟨b1, o1, rfl, hc1⟩ := (hra.below hw2).at_ (by intro e; rw [e] at hia; simp at hia)
      obtain ⟨b2, o2, rfl, hc2⟩ := (hrb.below hw2).at_ (by intro e; rw [e] at hib; simp at hib)
      refine rk_skip ?_
      refine rk_seq ?_
      refine rk_block ?_
      refine rk_seq ?_
      refine rk_region ?_
      refine wl_p (fun _ => o_move rfl) ?_
      refine wl_p (fun _ => o_assign rfl) ?_
      refine wl_nil ?_
      refine rk_seq ?_
      refine rk_draw (id := 4) (none) [0, 0, 3, 4, 0, 0, 48, 64, 136] [0, 0, 3, 7, 0, 0, 48, 112, 255] 0 0 [(.p, 0), (.p, 1), (.p, 2), (.r, 3), (.p, 4), (.p, 5), (.p, 6), (.r, 7), (.p, 8)] (by kernel_rfl) (by kernel_rfl) (by kernel_rfl) (by kernel_rfl) (by kernel_rfl) ?_
      refine wl_p (fun _ => o_move rfl) ?_
      refine wl_p (fun _ => o_move rfl) ?_
      refine wl_p (fun _ => o_iaddr (j := i) Try.underlying23 Try.sizeOf50 rfl rfl rfl hia) ?_
      refine wl_r (o_loadD rfl (hc1 i hia)) ?_
      refine wl_p (fun _ => o_move rfl) ?_
      refine wl_p (fun _ => o_move rfl) ?_
      refine wl_p (fun _ => o_iaddr (j := i) Try.underlying23 Try.sizeOf50 rfl rfl rfl hib) ?_
      refine wl_r (o_loadD rfl (hc2 i hib)) ?_
      refine wl_p (fun _ => o_dne rfl rfl) ?_
      refine wl_nild ?_
      refine rk_if rfl (fun h => ?_) (fun h => ?_)
      · refine rk_seq ?_
        refine rk_region ?_
        refine wl_p (fun _ => o_move rfl) ?_
        refine wl_p (fun _ => o_assign rfl) ?_
        refine wl_nil ?_
        refine ret1 rfl rfl ?_
        exact ⟨by rw [common_ne i a b hia hib ht h], hw2.drew⟩
      · refine rk_skip ?_
        refine rk_blk ?_
        refine rk_region ?_
        refine wl_p (fun _ => o_add rfl rfl (by omega) (by omega)) ?_
        refine wl_p (fun _ => o_move rfl) ?_
        refine wl_nil ?_
        exact rk_again (by repeat' constructor) ⟨i + 1, _, rfl, by omega, by omega, rfl, take_next hia hib ht (Classical.not_not.1 h), hw2.drew⟩ (by omega)
    · have e : i = min a.length b.length := by omega
      rw [e] at ht
      refine rk_exit rfl ?_
      exact rk_to hj (by repeat' constructor) ⟨rfl, ht, hw2⟩
  rintro fr w2 ⟨rfl, ht, hw2⟩
  refine rk_seq ?_
  refine rk_region ?_
  refine wl_p (fun _ => o_move rfl) ?_
  refine wl_p (fun _ => o_len (t := 23) Try.underlying23 rfl) ?_
  refine wl_p (fun _ => o_move rfl) ?_
  refine wl_p (fun _ => o_len (t := 23) Try.underlying23 rfl) ?_
  refine wl_p (fun _ => o_min rfl rfl) ?_
  refine wl_p (fun _ => o_assign rfl) ?_
  refine wl_nil ?_
  refine ret1 rfl rfl ?_
  exact ⟨by rw [common_end a b ht]; congr 1; omega, hw2⟩

theorem C_Equal {A B : Option Addr} {a b : List Dg} {k m : Nat} (c d : Nat) (hk : k = a.length) (hm : m = b.length) (w : World) (hra : RD w A a) (hrb : RD w B b) (hla : a.length ≤ 4000000) (_hlb : b.length ≤ 4000000) :
    CallsR Try.prog 49 [.slice A k c, .slice B m d] w fun v w' => v = .bool (decide (a = b)) ∧ Below w.heap.size w w' := by
  subst hk; subst hm
  refine callsR Try.func49 rfl rfl (by kernel_rfl) rfl ?_
  refine rk_seq ?_
  refine rk_region ?_
  refine wl_p (fun _ => o_assign rfl) ?_
  refine wl_nil ?_
  refine rk_seq ?_
  refine rk_seq ?_
  refine rk_region ?_
  refine wl_p (fun _ => o_move rfl) ?_
  refine wl_p (fun _ => o_len (t := 23) Try.underlying23 rfl) ?_
  refine wl_p (fun _ => o_move rfl) ?_
  refine wl_p (fun _ => o_len (t := 23) Try.underlying23 rfl) ?_
  refine wl_p (fun _ => o_ne rfl rfl) ?_
  refine wl_nil ?_
  refine rk_if rfl (fun h => ?_) (fun h => ?_)
  · refine rk_seq ?_
    refine rk_region ?_
    refine wl_p (fun _ => o_assign rfl) ?_
    refine wl_nil ?_
    refine ret1 rfl rfl ?_
    exact ⟨by rw [decide_eq_false (fun e => h (by rw [e]))], Below.refl _ _⟩
  have hab : a.length = b.length := by omega
  refine rk_skip ?_
  refine rk_seq ?_
  refine rk_seq ?_
  refine rk_region ?_
  refine wl_p (fun _ => o_move rfl) ?_
  refine wl_p (fun _ => o_len (t := 23) Try.underlying23 rfl) ?_
  refine wl_p (fun _ => o_move rfl) ?_
  refine wl_nil ?_
  refine rk_block ?_
  refine rk_joinb (fun fr w' => fr = [] ∧ a = b ∧ Below w.heap.size w w') ?_ (fun ks hj => ?_)
  rotate_left
  · refine rk_loop (fun m fr w' => ∃ (i : Nat) (v : Int), fr = [(0, .slice A a.length c), (1, .slice B b.length d), (12, .int .i64 a.length), (13, .int .i64 v)] ∧ v = i ∧ i ≤ a.length ∧ m = a.length - i ∧ a.take i = b.take i ∧ Below w.heap.size w w') (n := a.length) (by repeat' constructor)
      ⟨0, _, rfl, rfl, by omega, rfl, rfl, Below.refl _ _⟩ ?_
    rintro m fr w2 ⟨i, v, rfl, rfl, hi, rfl, ht, hw2⟩
    refine rk_seq ?_
    refine rk_region ?_
    refine wl_p (fun _ => o_lt rfl rfl) ?_
    refine wl_nil ?_
    refine rk_seq ?_
    refine rk_if rfl (fun h => ?_) (fun h => ?_)
    · have hia : i < a.length := by omega
      have hib : i < b.length := by omega
      obtain ⟨b1, o1, rfl, hc1⟩ := (hra.below hw2).at_ (by intro e; rw [e] at hia; simp at hia)
      obtain ⟨b2, o2, rfl, hc2⟩ := (hrb.below hw2).at_ (by intro e; rw [e] at hib; simp at hib)
      refine rk_skip ?_
      refine rk_seq ?_
      refine rk_block ?_
      refine rk_seq ?_
      refine rk_region ?_
      refine wl_p (fun _ => o_move rfl) ?_
      refine wl_p (fun _ => o_assign rfl) ?_
      refine wl_nil ?_
      refine rk_seq ?_
      refine rk_draw (id := 6) (none) [0, 0, 3, 4, 0, 0, 48, 64, 136] [0, 0, 3, 7, 0, 0, 48, 112, 255] 0 0 [(.p, 0), (.p, 1), (.p, 2), (.r, 3), (.p, 4), (.p, 5), (.p, 6), (.r, 7), (.p, 8)] (by kernel_rfl) (by kernel_rfl) (by kernel_rfl) (by kernel_rfl) (by kernel_rfl) ?_
      refine wl_p (fun _ => o_move rfl) ?_
      refine wl_p (fun _ => o_move rfl) ?_
      refine wl_p (fun _ => o_iaddr (j := i) Try.underlying23 Try.sizeOf50 rfl rfl rfl hia) ?_
      refine wl_r (o_loadD rfl (hc1 i hia)) ?_
      refine wl_p (fun _ => o_move rfl) ?_
      refine wl_p (fun _ => o_move rfl) ?_
      refine wl_p (fun _ => o_iaddr (j := i) Try.underlying23 Try.sizeOf50 rfl rfl rfl hib) ?_
      refine wl_r (o_loadD rfl (hc2 i hib)) ?_
      refine wl_p (fun _ => o_dne rfl rfl) ?_
      refine wl_nild ?_
      refine rk_if rfl (fun h => ?_) (fun h => ?_)
      · refine rk_seq ?_
        refine rk_region ?_
        refine wl_p (fun _ => o_assign rfl) ?_
        refine wl_nil ?_
        refine ret1 rfl rfl ?_
        exact ⟨by rw [decide_eq_false (fun e => h (by simp [e]))], hw2.drew⟩
      · refine rk_skip ?_
        refine rk_blk ?_
        refine rk_region ?_
        refine wl_p (fun _ => o_add rfl rfl (by omega) (by omega)) ?_
        refine wl_p (fun _ => o_move rfl) ?_
        refine wl_nil ?_
        exact rk_again (by repeat' constructor) ⟨i + 1, _, rfl, by omega, by omega, rfl, take_next hia hib ht (Classical.not_not.1 h), hw2.drew⟩ (by omega)
    · have e : i = a.length := by omega
      rw [e, List.take_length, hab, List.take_length] at ht
      refine rk_exit rfl ?_
      exact rk_to hj (by repeat' constructor) ⟨rfl, ht, hw2⟩
  rintro fr w2 ⟨rfl, ht, hw2⟩
  refine rk_seq ?_
  refine rk_region ?_
  refine wl_p (fun _ => o_assign rfl) ?_
  refine wl_nil ?_
  refine ret1 rfl rfl ?_
  exact ⟨by rw [decide_eq_true ht], hw2⟩

theorem C_linSame {A B : Option Addr} {a b : List Dg} {k m : Nat} (c d : Nat) (hk : k = a.length) (hm : m = b.length) (w : World) (hra : RD w A a) (hrb : RD w B b) (hla : a.length ≤ 4000000) (hlb : b.length ≤ 4000000) :
    CallsR Try.prog 38 [.slice A k c, .slice B m d] w fun v w' => v = .bool (decide (a = b)) ∧ Below w.heap.size w w' := by
  refine callsR Try.func38 rfl rfl (by kernel_rfl) rfl ?_
  refine rk_seq ?_
  refine rk_region ?_
  refine wl_p (fun _ => o_assign rfl) ?_
  refine wl_nil ?_
  refine rk_seq ?_
  refine rk_region ?_
  refine wl_p (fun _ => o_move rfl) ?_
  refine wl_p (fun _ => o_move rfl) ?_
  refine wl_call rfl (C_Equal c d hk hm w hra hrb hla hlb) ?_
  rintro _ w2 ⟨rfl, hw2⟩
  refine wl_p (fun _ => o_assign rfl) ?_
  refine wl_nil ?_
  refine ret1 rfl rfl ?_
  exact ⟨rfl, hw2⟩

theorem RD.none_ {w : World} {L : List Dg} (h : RD w none L) : L = [] := by
  refine Classical.byContradiction fun hn => ?_
  obtain ⟨b, o, e, -⟩ := h.at_ hn
  cases e
theorem C_Clone {A : Option Addr} {L : List Dg} {k : Nat} (c : Nat) (hk : k = L.length) (w : World) (hr : RD w A L) (hL : L.length ≤ 4000000) :
    CallsR Try.prog 45 [.slice A k c] w fun v w' => ∃ A' c', v = .slice A' L.length c' ∧ OwnD w' w.heap.size A' c' L ∧ Below w.heap.size w w' := by
  subst hk
  refine callsR Try.func45 rfl rfl (by kernel_rfl) rfl ?_
  refine rk_seq ?_
  refine rk_region ?_
  refine wl_p (fun _ => o_assign rfl) ?_
  refine wl_nil ?_
  refine rk_seq ?_
  refine rk_seq ?_
  refine rk_region ?_
  refine wl_p (fun _ => o_move rfl) ?_
  refine wl_p (fun _ => o_sleq (t := 23) Try.underlying23 rfl rfl) ?_
  refine wl_nil ?_
  refine rk_cond rfl (fun h => ?_) (fun h => ?_)
  · obtain rfl : A = none := by cases A with | none => rfl | some _ => cases h
    obtain rfl := hr.none_
    refine rk_seq ?_
    refine rk_region ?_
    refine wl_p (fun _ => o_assign rfl) ?_
    refine wl_nil ?_
    refine ret1 rfl rfl ?_
    exact ⟨none, 0, rfl, OwnD.nil _ _, Below.refl _ _⟩
  · refine rk_skip ?_
    refine rk_seq ?_
    refine rk_region ?_
    refine wl_litD (xs := []) [] 0 rfl rfl rfl ?_
    intro w1 hown1 hb1 hz1
    refine wl_p (fun _ => o_move rfl) ?_
    refine wl_appD (L := []) rfl rfl (hown1 _ (Nat.le_refl _)) rfl rfl (hr.below hb1) (by simpa using hL) hb1.size ?_
    intro A' c' w2 hown2 hg2 hk2 hb2
    refine wl_p (fun _ => o_assign rfl) ?_
    refine wl_nil ?_
    refine ret1 rfl rfl ?_
    exact ⟨A', c', rfl, hown2, hb1.trans hb2⟩
end Go.Proofs.Ytbncaabcddoicaa
