/-
  Walks of chapter 18's program: sets of names, common parts.
-/
import Derived.Test.YtbncaabcddoicaaMapD
namespace Go.Proofs.Ytbncaabcddoicaa
open Go.RowKit

section
variable {P : Program} {N : Nat} {fr : Fr} {w : World} {ty t t' : TypeId} {x y : Operand}
theorem run_equal_slice_nil {e : TypeId} (hu : P.underlying t = some (.slice e)) (A : Option Addr) (n c : Nat) : (Op.equal t (.slice A n c) (.slice none 0 0)).run P w = .ok A.isNone w := by
  have h : ∀ d : Nat, (Op.equalIn (d + 1) t (.slice A n c) (.slice none 0 0)).run P w = .ok A.isNone w := fun d => by
    cases A <;> simp [Op.equalIn, run_underlying hu]
  exact h 9999
theorem o_sleq {e : TypeId} {A : Option Addr} {n c : Nat} (hu : P.underlying t = some (.slice e)) (hx : fr.ev x = some (.slice A n c)) (hy : fr.ev y = some (.slice none 0 0)) : OpV P N fr w (.binOp .eql t x y t') ty (.bool A.isNone) w :=
  o_bin hx hy (fun _ _ => by simp [go_sem]) (by simp only [binOp]; simp [run_equal_slice_nil hu])
end

theorem Try.build_unit (w : World) : (Instr.build 68 (([] : List Nat).zip ([] : List Value)).toArray).run Try.prog w = .ok (.agg #[]) w := by kernel_rfl

theorem C_add {b n : Nat} {L : List Dg} (q : Dg) (w : World) (hS : SetD w b L n) (hL : L.length ≤ 4000000) (_hn : n ≤ 4000000) :
    CallsR Try.prog 44 [.map (some b), vD q] w fun v w' => v = .bool (decide (q ∉ L)) ∧ SetD w' b (L ++ [q]) (if q ∈ L then n else n + 1) ∧ w.grownBy w' (some b) := by
  refine callsR Try.func44 rfl rfl (by kernel_rfl) rfl ?_
  refine rk_seq ?_
  refine rk_region ?_
  refine wl_box (B8 q.1) rfl rfl ?_
  intro w1 hB1 hb1 hz1
  have hS1 := hS.below hb1
  have hlt := hS.lt
  refine wl_p (fun _ => o_assign rfl) ?_
  refine wl_nil ?_
  refine rk_seq ?_
  refine rk_region ?_
  refine wl_p (fun _ => o_move rfl) ?_
  refine wl_r (o_lenSet Try.underlying54 rfl hS1) ?_
  refine wl_p (fun _ => o_assign rfl) ?_
  refine wl_nil ?_
  refine rk_seq ?_
  refine rk_region ?_
  refine wl_p (fun _ => o_move rfl) ?_
  refine wl_r (o_loadDb rfl hB1 rfl) ?_
  refine wl_p (fun _ => o_build (is := []) (xs := []) (vs := []) rfl (fun w => Try.build_unit w)) ?_
  refine wl_setAdd Try.underlying54 rfl rfl rfl hS1 hL ?_
  intro w2 hS2 hg2 hz2
  refine wl_nil ?_
  refine rk_seq ?_
  refine rk_region ?_
  refine wl_p (fun _ => o_move rfl) ?_
  refine wl_r (o_lenSet Try.underlying54 rfl hS2) ?_
  refine wl_p (fun _ => o_move rfl) ?_
  refine wl_p (fun _ => o_gt rfl rfl) ?_
  refine wl_p (fun _ => o_assign rfl) ?_
  refine wl_nil ?_
  refine ret1 rfl rfl ?_
  refine ⟨?_, hS2, grownBy_trans (grownBy_of_below hb1 _) hg2⟩
  congr 1
  by_cases h : q ∈ L <;> simp [h] <;> omega

/-- Does no name stand twice? -/
def uniq : List Dg → Bool
  | [] => true
  | d :: L => !L.contains d && uniq L
theorem uniq_snoc (L : List Dg) (d : Dg) : uniq (L ++ [d]) = (uniq L && !L.contains d) := by
  induction L with
  | nil => rfl
  | cons e L ih =>
    simp only [List.cons_append, uniq, ih]
    rw [Bool.eq_iff_iff]
    simp
    grind

theorem C_setOf {A : Option Addr} {L : List Dg} {k : Nat} (c : Nat) (hk : k = L.length) (w : World) (hr : RD w A L) (hL : L.length ≤ 4000000) :
    CallsR Try.prog 32 [.slice A k c] w fun v w' => ∃ b n, v = .tuple #[.map (some b), .bool (uniq L)] ∧ w.heap.size ≤ b ∧ SetD w' b L n ∧ Below w.heap.size w w' := by
  subst hk
  refine callsR Try.func32 rfl rfl (by kernel_rfl) rfl ?_
  refine rk_seq ?_
  refine rk_region ?_
  refine wl_p (fun _ => o_assign rfl) ?_
  refine wl_p (fun _ => o_assign rfl) ?_
  refine wl_nil ?_
  refine rk_seq ?_
  refine rk_region ?_
  refine wl_makeMap ?_
  rintro w1 rfl hb1 hz1
  have hS1 := setD_made w
  refine wl_p (fun _ => o_assign rfl) ?_
  refine wl_p (fun _ => o_assign rfl) ?_
  refine wl_nil ?_
  refine rk_seq ?_
  refine rk_seq ?_
  refine rk_region ?_
  refine wl_p (fun _ => o_move rfl) ?_
  refine wl_p (fun _ => o_len (t := 23) Try.underlying23 rfl) ?_
  refine wl_p (fun _ => o_move rfl) ?_
  refine wl_nil ?_
  refine rk_block ?_
  refine rk_joinb (fun fr w' => ∃ n, fr = [(4, .map (some w.heap.size)), (5, .bool (uniq L))] ∧ SetD w' w.heap.size L n ∧ Below w.heap.size w w') ?_ (fun ks hj => ?_)
  rotate_left
  · refine rk_loop (fun m fr w' => ∃ (i n : Nat) (v : Int) (u : Bool), fr = [(4, .map (some w.heap.size)), (5, .bool u), (9, .slice A L.length c), (10, .int .i64 L.length), (11, .int .i64 v)] ∧ v = i ∧ i ≤ L.length ∧ m = L.length - i ∧ u = uniq (L.take i) ∧ n ≤ i ∧ SetD w' w.heap.size (L.take i) n ∧ Below w.heap.size w w') (n := L.length) (by repeat' constructor)
      ⟨0, 0, _, _, rfl, rfl, by omega, rfl, rfl, Nat.le_refl _, hS1, hb1⟩ ?_
    rintro m fr w2 ⟨i, n, v, u, rfl, rfl, hi, rfl, rfl, hn, hS2, hw2⟩
    refine rk_seq ?_
    refine rk_region ?_
    refine wl_p (fun _ => o_lt rfl rfl) ?_
    refine wl_nil ?_
    refine rk_seq ?_
    refine rk_if rfl (fun h => ?_) (fun h => ?_)
    · have hil : i < L.length := by omega
      obtain ⟨bb, oo, rfl, hcell⟩ := (hr.below hw2).at_ (by intro e; rw [e] at hil; simp at hil)
      have htk : L.take (i + 1) = L.take i ++ [L[i]] := by rw [List.take_succ_eq_append_getElem hil]
      have hlt : (L.take i).length = i := by rw [List.length_take]; omega
      refine rk_skip ?_
      refine rk_seq ?_
      refine rk_block ?_
      refine rk_seq ?_
      refine rk_region ?_
      refine wl_p (fun _ => o_iaddr (j := i) Try.underlying23 Try.sizeOf50 rfl rfl rfl hil) ?_
      refine wl_r (o_loadD rfl (hcell i hil)) ?_
      refine wl_alloc z32 Try.zeroValue50 rfl ?_
      intro w3 hB3 hb3 hz3
      refine wl_store_all Try.sizeOf50 rfl rfl (by rw [B8_length, L[i].2]) (B8_oneCell _) hB3 rfl ?_
      intro w4 hB4 hg4 hz4
      have hw4 := hw2.trans (below_of_grownBy (grownBy_trans (grownBy_of_below hb3 _) hg4) hw2.size hw2.size)
      have hS4 := (hS2.below hb3).kept hg4 (by intro e; injection e with e; have := hS2.lt; omega)
      refine wl_nil ?_
      refine rk_seq ?_
      refine rk_region ?_
      refine wl_p (fun _ => o_move rfl) ?_
      refine wl_r (o_loadDb rfl hB4 rfl) ?_
      refine wl_call rfl (C_add L[i] w4 hS4 (by omega) (by omega)) ?_
      rintro _ w5 ⟨rfl, hS5, hg5⟩
      rw [← htk] at hS5
      have hw5 := hw4.trans (below_of_grownBy hg5 hw4.size (Nat.le_refl _))
      refine wl_p (fun _ => o_not rfl) ?_
      refine wl_nil ?_
      refine rk_cond rfl (fun h => ?_) (fun h => ?_)
      · have hin : L[i] ∈ L.take i := by simpa using h
        rw [if_pos hin] at hS5
        refine rk_region ?_
        refine wl_p (fun _ => o_assign rfl) ?_
        refine wl_nil ?_
        refine rk_blk ?_
        refine rk_region ?_
        refine wl_p (fun _ => o_add rfl rfl (by omega) (by omega)) ?_
        refine wl_p (fun _ => o_move rfl) ?_
        refine wl_nil ?_
        exact rk_again (by repeat' constructor) ⟨i + 1, n, _, false, rfl, by omega, by omega, rfl, by rw [htk, uniq_snoc]; simp [hin], by omega, hS5, hw5⟩ (by omega)
      · have hni : L[i] ∉ L.take i := by simpa using h
        rw [if_neg hni] at hS5
        refine rk_skip ?_
        refine rk_blk ?_
        refine rk_region ?_
        refine wl_p (fun _ => o_add rfl rfl (by omega) (by omega)) ?_
        refine wl_p (fun _ => o_move rfl) ?_
        refine wl_nil ?_
        exact rk_again (by repeat' constructor) ⟨i + 1, n + 1, _, uniq (L.take i), rfl, by omega, by omega, rfl, by rw [htk, uniq_snoc]; simp [hni], by omega, hS5, hw5⟩ (by omega)
    · have e : L.take i = L := List.take_of_length_le (by omega)
      rw [e] at hS2 ⊢
      refine rk_exit rfl ?_
      exact rk_to hj (by repeat' constructor) ⟨n, rfl, hS2, hw2⟩
  rintro fr w2 ⟨n, rfl, hS2, hw2⟩
  refine rk_seq ?_
  refine rk_region ?_
  refine wl_p (fun _ => o_move rfl) ?_
  refine wl_p (fun _ => o_move rfl) ?_
  refine wl_p (fun _ => o_assign rfl) ?_
  refine wl_p (fun _ => o_assign rfl) ?_
  refine wl_nil ?_
  refine ret2 rfl rfl rfl ?_
  exact ⟨w.heap.size, n, rfl, Nat.le_refl _, hS2, hw2⟩
end Go.Proofs.Ytbncaabcddoicaa
