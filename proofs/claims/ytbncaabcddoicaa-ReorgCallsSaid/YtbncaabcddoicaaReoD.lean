/-
  Walks of chapter 18's program: Grow, Concat, ContainsFunc, fits.
-/
import Derived.Test.YtbncaabcddoicaaReoC
namespace Go.Proofs.Ytbncaabcddoicaa
open Go.RowKit

theorem o_cap {P : Program} {N : Nat} {fr : Fr} {w : World} {ty t : TypeId} {x : Operand} {e : TypeId} {A : Option Addr} {n c : Nat} (hu : P.underlying t = some (.slice e)) (hx : fr.ev x = some (.slice A n c)) : OpV P N fr w (.call { callee := .builtin .cap, args := #[x], argTypes := #[t] }) ty (.int .i64 c) w :=
  o_builtin (xs := [x]) (vs := [.slice A n c]) (by simp [Fr.evs, hx]) (by simp [builtin, Builtin.cap_, run_underlying hu, goInt]) (by simp)

theorem C_Grow (n : Nat) (w : World) (hn : n ≤ 8000000) :
    CallsR Try.prog 48 [.slice none 0 0, .int .i64 n] w fun v w' => ∃ A c, v = .slice A 0 c ∧ OwnD w' w.heap.size A c [] ∧ Below w.heap.size w w' := by
  refine callsR Try.func48 rfl rfl (by kernel_rfl) rfl ?_
  refine rk_seq ?_
  refine rk_region ?_
  refine wl_p (fun _ => o_assign rfl) ?_
  refine wl_nil ?_
  refine rk_seq ?_
  refine rk_seq ?_
  refine rk_region ?_
  refine wl_p (fun _ => o_move rfl) ?_
  refine wl_p (fun _ => o_lt rfl rfl) ?_
  refine wl_nil ?_
  refine rk_false rfl ?_
  refine rk_skip ?_
  refine rk_seq ?_
  refine rk_seq ?_
  refine rk_region ?_
  refine wl_p (fun _ => o_move rfl) ?_
  refine wl_p (fun _ => o_move rfl) ?_
  refine wl_p (fun _ => o_cap Try.underlying23 rfl) ?_
  refine wl_p (fun _ => o_move rfl) ?_
  refine wl_p (fun _ => o_len (t := 23) Try.underlying23 rfl) ?_
  refine wl_p (fun _ => o_sub rfl rfl (by omega) (by omega)) ?_
  refine wl_p (fun _ => o_sub rfl rfl (by omega) (by omega)) ?_
  refine wl_p (fun _ => o_assign rfl) ?_
  refine wl_nil ?_
  refine rk_seq ?_
  refine rk_region ?_
  refine wl_p (fun _ => o_move rfl) ?_
  refine wl_p (fun _ => o_gt rfl rfl) ?_
  refine wl_nil ?_
  refine rk_if rfl (fun h => ?_) (fun h => ?_)
  · refine rk_region ?_
    refine wl_p (fun _ => o_move rfl) ?_
    refine wl_p (fun _ => o_move rfl) ?_
    refine wl_p (fun _ => o_cap Try.underlying23 rfl) ?_
    refine wl_p (fun _ => o_slice_hi (hi := 0) Try.underlying23 Try.sizeOf50 rfl rfl rfl (Nat.le_refl _)) ?_
    refine wl_p (fun _ => o_move rfl) ?_
    refine wl_appz (m := n) Try.rowD Try.underlying3 rfl rfl (by omega) (by omega) (by omega) (by omega) ?_
    intro w1 c h1 hc hb1
    refine wl_p (fun _ => o_move rfl) ?_
    refine wl_p (fun _ => o_len (t := 23) Try.underlying23 rfl) ?_
    refine wl_p (fun _ => o_slice_hi (hi := 0) Try.underlying23 Try.sizeOf50 rfl rfl rfl (Nat.zero_le _)) ?_
    refine wl_p (fun _ => o_assign rfl) ?_
    refine wl_nil ?_
    refine rk_seq ?_
    refine rk_region ?_
    refine wl_p (fun _ => o_move rfl) ?_
    refine wl_p (fun _ => o_assign rfl) ?_
    refine wl_nil ?_
    refine ret1 rfl rfl ?_
    exact ⟨_, c, rfl, h1 _ (Nat.le_refl _), hb1⟩
  · refine rk_skip ?_
    refine rk_seq ?_
    refine rk_region ?_
    refine wl_p (fun _ => o_move rfl) ?_
    refine wl_p (fun _ => o_assign rfl) ?_
    refine wl_nil ?_
    refine ret1 rfl rfl ?_
    exact ⟨none, 0, rfl, OwnD.nil _ _, Below.refl _ _⟩

theorem C_Concat {X : Option Addr} (vs : List (Option Addr × Nat × List Dg)) (c : Nat) (w : World) (hX : Reads w 1 X vs.length (vs.map fun x => Value.slice x.1 x.2.2.length x.2.1)) (hr : ∀ x ∈ vs, RD w x.1 x.2.2) (hl : (vs.flatMap fun x => x.2.2).length ≤ 4000000) (hvl : vs.length ≤ 1000) :
    CallsR Try.prog 37 [.slice X vs.length c] w fun v w' => ∃ A' c', v = .slice A' (vs.flatMap fun x => x.2.2).length c' ∧ OwnD w' w.heap.size A' c' (vs.flatMap fun x => x.2.2) ∧ Below w.heap.size w w' := by
  have hat : ∀ i (hi : i < vs.length) (w' : World), Below w.heap.size w w' → ∃ b o, X = some ⟨b, o, none⟩ ∧ w'.cell? ⟨b, o + i, none⟩ = some (.slice vs[i].1 vs[i].2.2.length vs[i].2.1) := fun i hi w' hb => by
    obtain ⟨b, o, e, hc⟩ := (hX.below hb).2 (by intro e; rw [List.map_eq_nil_iff] at e; rw [e] at hi; simp at hi)
    exact ⟨b, o, e, hc i _ (by rw [List.getElem?_map, List.getElem?_eq_getElem hi]; rfl)⟩
  have hsum : ∀ i, i ≤ vs.length → ((vs.take i).flatMap fun x => x.2.2).length ≤ 4000000 := fun i hi => by
    have e : (vs.flatMap fun x => x.2.2).length = ((vs.take i).flatMap fun x => x.2.2).length + ((vs.drop i).flatMap fun x => x.2.2).length := by
      conv => lhs; rw [← List.take_append_drop i vs]
      rw [List.flatMap_append, List.length_append]
    omega
  have hnext : ∀ i (hi : i < vs.length), (vs.take (i + 1)).flatMap (fun x => x.2.2) = (vs.take i).flatMap (fun x => x.2.2) ++ vs[i].2.2 := fun i hi => by
    rw [List.take_succ_eq_append_getElem hi, List.flatMap_append, List.flatMap_cons, List.flatMap_nil, List.append_nil]
  refine callsR Try.func37 rfl rfl (by kernel_rfl) rfl ?_
  refine rk_seq ?_
  refine rk_region ?_
  refine wl_p (fun _ => o_assign rfl) ?_
  refine wl_nil ?_
  refine rk_seq ?_
  refine rk_region ?_
  refine wl_p (fun _ => o_assign rfl) ?_
  refine wl_nil ?_
  refine rk_seq ?_
  refine rk_seq ?_
  refine rk_region ?_
  refine wl_p (fun _ => o_move rfl) ?_
  refine wl_p (fun _ => o_len (t := 70) Try.underlying70 rfl) ?_
  refine wl_p (fun _ => o_move rfl) ?_
  refine wl_nil ?_
  refine rk_block ?_
  refine rk_joinb (fun fr w' => ∃ s : Int, fr = [(0, .slice X vs.length c), (3, .int .i64 s)] ∧ s = (vs.flatMap fun x => x.2.2).length ∧ Below w.heap.size w w') ?_ (fun ks hj => ?_)
  rotate_left
  · refine rk_loop (fun m fr w' => ∃ (i : Nat) (v s : Int), fr = [(0, .slice X vs.length c), (3, .int .i64 s), (9, .slice X vs.length c), (10, .int .i64 vs.length), (11, .int .i64 v)] ∧ v = i ∧ i ≤ vs.length ∧ m = vs.length - i ∧ s = ((vs.take i).flatMap fun x => x.2.2).length ∧ Below w.heap.size w w') (n := vs.length) (by repeat' constructor)
      ⟨0, _, _, rfl, rfl, by omega, rfl, rfl, Below.refl _ _⟩ ?_
    rintro m fr w2 ⟨i, v, s, rfl, rfl, hi, rfl, rfl, hw2⟩
    refine rk_seq ?_
    refine rk_region ?_
    refine wl_p (fun _ => o_lt rfl rfl) ?_
    refine wl_nil ?_
    refine rk_seq ?_
    refine rk_if rfl (fun h => ?_) (fun h => ?_)
    · have hiv : i < vs.length := by omega
      obtain ⟨b, o, rfl, hc⟩ := hat i hiv w2 hw2
      have hs1 := hsum (i + 1) hiv
      rw [hnext i hiv, List.length_append] at hs1
      refine rk_skip ?_
      refine rk_seq ?_
      refine rk_block ?_
      refine rk_seq ?_
      refine rk_region ?_
      refine wl_p (fun _ => o_iaddr1 (j := i) Try.underlying70 Try.sizeOf23 rfl rfl rfl hiv) ?_
      refine wl_r (o_load (t := 23) Try.isAgg23 rfl hc) ?_
      refine wl_p (fun _ => o_assign rfl) ?_
      refine wl_nil ?_
      refine rk_seq ?_
      refine rk_region ?_
      refine wl_p (fun _ => o_move rfl) ?_
      refine wl_p (fun _ => o_move rfl) ?_
      refine wl_p (fun _ => o_len (t := 23) Try.underlying23 rfl) ?_
      refine wl_p (fun _ => o_add rfl rfl (by omega) (by omega)) ?_
      refine wl_p (fun _ => o_assign rfl) ?_
      refine wl_nil ?_
      refine rk_seq ?_
      refine rk_region ?_
      refine wl_p (fun _ => o_move rfl) ?_
      refine wl_p (fun _ => o_lt rfl rfl) ?_
      refine wl_nil ?_
      refine rk_false rfl ?_
      refine rk_skip ?_
      refine rk_blk ?_
      refine rk_region ?_
      refine wl_p (fun _ => o_add rfl rfl (by omega) (by omega)) ?_
      refine wl_p (fun _ => o_move rfl) ?_
      refine wl_nil ?_
      exact rk_again (by repeat' constructor) ⟨i + 1, _, _, rfl, rfl, by omega, rfl, by rw [hnext i hiv, List.length_append]; omega, hw2⟩ (by omega)
    · have e : vs.take i = vs := List.take_of_length_le (by omega)
      refine rk_exit rfl ?_
      exact rk_to hj (by repeat' constructor) ⟨_, rfl, by rw [e], hw2⟩
  rintro fr w2 ⟨s, rfl, rfl, hw2⟩
  refine rk_seq ?_
  refine rk_region ?_
  refine wl_p (fun _ => o_move rfl) ?_
  refine wl_call rfl (C_Grow _ w2 (by omega)) ?_
  rintro _ w3 ⟨A3, c3, rfl, hown3, hb3⟩
  have hw3 := hw2.trans (hb3.mono hw2.size)
  refine wl_p (fun _ => o_assign rfl) ?_
  refine wl_nil ?_
  refine rk_seq ?_
  refine rk_seq ?_
  refine rk_region ?_
  refine wl_p (fun _ => o_move rfl) ?_
  refine wl_p (fun _ => o_len (t := 70) Try.underlying70 rfl) ?_
  refine wl_p (fun _ => o_move rfl) ?_
  refine wl_nil ?_
  refine rk_block ?_
  refine rk_joinb (fun fr w' => ∃ A6 c6, fr = [(6, .slice A6 (vs.flatMap fun x => x.2.2).length c6)] ∧ OwnD w' w.heap.size A6 c6 (vs.flatMap fun x => x.2.2) ∧ Below w.heap.size w w') ?_ (fun ks hj => ?_)
  rotate_left
  · refine rk_loop (fun m fr w' => ∃ (i : Nat) (v : Int) (A6 : Option Addr) (n6 c6 : Nat), fr = [(6, .slice A6 n6 c6), (25, .slice X vs.length c), (26, .int .i64 vs.length), (27, .int .i64 v)] ∧ v = i ∧ i ≤ vs.length ∧ m = vs.length - i ∧ n6 = ((vs.take i).flatMap fun x => x.2.2).length ∧ OwnD w' w.heap.size A6 c6 ((vs.take i).flatMap fun x => x.2.2) ∧ Below w.heap.size w w') (n := vs.length) (by repeat' constructor)
      ⟨0, _, A3, 0, c3, rfl, rfl, by omega, rfl, rfl, hown3.base hw2.size, hw3⟩ ?_
    rintro m fr w4 ⟨i, v, A6, n6, c6, rfl, rfl, hi, rfl, rfl, hown4, hw4⟩
    refine rk_seq ?_
    refine rk_region ?_
    refine wl_p (fun _ => o_lt rfl rfl) ?_
    refine wl_nil ?_
    refine rk_seq ?_
    refine rk_if rfl (fun h => ?_) (fun h => ?_)
    · have hiv : i < vs.length := by omega
      obtain ⟨b, o, rfl, hc⟩ := hat i hiv w4 hw4
      have hs1 := hsum (i + 1) hiv
      rw [hnext i hiv, List.length_append] at hs1
      refine rk_skip ?_
      refine rk_seq ?_
      refine rk_block ?_
      refine rk_seq ?_
      refine rk_region ?_
      refine wl_p (fun _ => o_iaddr1 (j := i) Try.underlying70 Try.sizeOf23 rfl rfl rfl hiv) ?_
      refine wl_r (o_load (t := 23) Try.isAgg23 rfl hc) ?_
      refine wl_p (fun _ => o_assign rfl) ?_
      refine wl_nil ?_
      refine rk_region ?_
      refine wl_p (fun _ => o_move rfl) ?_
      refine wl_p (fun _ => o_move rfl) ?_
      refine wl_appD rfl rfl hown4 rfl rfl ((hr _ (List.getElem_mem hiv)).below hw4) hs1 hw4.size ?_
      intro A7 c7 w5 hown5 hg5 hk5 hb5
      refine wl_p (fun _ => o_assign rfl) ?_
      refine wl_nil ?_
      refine rk_blk ?_
      refine rk_region ?_
      refine wl_p (fun _ => o_add rfl rfl (by omega) (by omega)) ?_
      refine wl_p (fun _ => o_move rfl) ?_
      refine wl_nil ?_
      exact rk_again (by repeat' constructor) ⟨i + 1, _, A7, _, c7, rfl, rfl, by omega, rfl, by rw [hnext i hiv], by rw [hnext i hiv]; exact hown5, hw4.trans hb5⟩ (by omega)
    · have e : vs.take i = vs := List.take_of_length_le (by omega)
      rw [e] at hown4
      rw [e]
      refine rk_exit rfl ?_
      exact rk_to hj (by repeat' constructor) ⟨A6, c6, rfl, hown4, hw4⟩
  rintro fr w4 ⟨A6, c6, rfl, hown4, hw4⟩
  refine rk_seq ?_
  refine rk_region ?_
  refine wl_p (fun _ => o_move rfl) ?_
  refine wl_p (fun _ => o_assign rfl) ?_
  refine wl_nil ?_
  refine ret1 rfl rfl ?_
  exact ⟨A6, c6, rfl, hown4, hw4⟩

theorem C_IndexFunc {A : Option Addr} {L : List Dg} {k : Nat} (c : Nat) (hk : k = L.length) (f : FuncId) (cs : List Value) (p : Dg → Bool) (w : World) (hr : RD w A L) (hl : L.length ≤ 4000000)
    (hf : ∀ (q : Dg) (w' : World), Below w.heap.size w w' → CallsR Try.prog f ([vD q] ++ cs) w' fun v w'' => v = .bool (p q) ∧ Below w'.heap.size w' w'') :
    CallsR Try.prog 50 [.slice A k c, .func (.func f) #[] cs.toArray] w fun v w' => ∃ r : Int, v = .int .i64 r ∧ (0 ≤ r ↔ L.any p = true) ∧ Below w.heap.size w w' := by
  subst hk
  refine callsR Try.func50 rfl rfl (by kernel_rfl) rfl ?_
  refine rk_seq ?_
  refine rk_region ?_
  refine wl_p (fun _ => o_assign rfl) ?_
  refine wl_nil ?_
  refine rk_seq ?_
  refine rk_seq ?_
  refine rk_region ?_
  refine wl_p (fun _ => o_move rfl) ?_
  refine wl_p (fun _ => o_len (t := 23) Try.underlying23 rfl) ?_
  refine wl_p (fun _ => o_move rfl) ?_
  refine wl_nil ?_
  refine rk_block ?_
  refine rk_joinb (fun fr w' => fr = [] ∧ L.any p = false ∧ Below w.heap.size w w') ?_ (fun ks hj => ?_)
  rotate_left
  · refine rk_loop (fun m fr w' => ∃ (i : Nat) (v : Int), fr = [(0, .slice A L.length c), (1, .func (.func f) #[] cs.toArray), (7, .int .i64 L.length), (8, .int .i64 v)] ∧ v = i ∧ i ≤ L.length ∧ m = L.length - i ∧ (L.take i).any p = false ∧ Below w.heap.size w w') (n := L.length) (by repeat' constructor)
      ⟨0, _, rfl, rfl, by omega, rfl, rfl, Below.refl _ _⟩ ?_
    rintro m fr w2 ⟨i, v, rfl, rfl, hi, rfl, ha, hw2⟩
    refine rk_seq ?_
    refine rk_region ?_
    refine wl_p (fun _ => o_lt rfl rfl) ?_
    refine wl_nil ?_
    refine rk_seq ?_
    refine rk_if rfl (fun h => ?_) (fun h => ?_)
    · have hil : i < L.length := by omega
      obtain ⟨b, o, rfl, hcell⟩ := (hr.below hw2).at_ (by intro e; rw [e] at hil; simp at hil)
      refine rk_skip ?_
      refine rk_seq ?_
      refine rk_block ?_
      refine rk_seq ?_
      refine rk_region ?_
      refine wl_p (fun _ => o_move rfl) ?_
      refine wl_p (fun _ => o_assign rfl) ?_
      refine wl_nil ?_
      refine rk_seq ?_
      refine rk_region ?_
      refine wl_p (fun _ => o_move rfl) ?_
      refine wl_p (fun _ => o_move rfl) ?_
      refine wl_p (fun _ => o_move rfl) ?_
      refine wl_p (fun _ => o_iaddr (j := i) Try.underlying23 Try.sizeOf50 rfl rfl rfl hil) ?_
      refine wl_r (o_loadD rfl (hcell i hil)) ?_
      refine wl_callf (xs := [_]) rfl rfl (hf L[i] w2 hw2) ?_
      rintro _ w3 ⟨rfl, hb3⟩
      have hw3 := hw2.trans (hb3.mono hw2.size)
      refine wl_nil ?_
      refine rk_cond rfl (fun h => ?_) (fun h => ?_)
      · refine rk_seq ?_
        refine rk_region ?_
        refine wl_p (fun _ => o_move rfl) ?_
        refine wl_p (fun _ => o_assign rfl) ?_
        refine wl_nil ?_
        refine ret1 rfl rfl ?_
        exact ⟨_, rfl, by
          constructor
          · intro _
            exact List.any_eq_true.2 ⟨L[i], List.getElem_mem hil, h⟩
          · intro _; omega, hw3⟩
      · refine rk_skip ?_
        refine rk_blk ?_
        refine rk_region ?_
        refine wl_p (fun _ => o_add rfl rfl (by omega) (by omega)) ?_
        refine wl_p (fun _ => o_move rfl) ?_
        refine wl_nil ?_
        exact rk_again (by repeat' constructor) ⟨i + 1, _, rfl, rfl, by omega, rfl, by rw [List.take_succ_eq_append_getElem hil, List.any_append, ha]; simp [h], hw3⟩ (by omega)
    · have e : L.take i = L := List.take_of_length_le (by omega)
      rw [e] at ha
      refine rk_exit rfl ?_
      exact rk_to hj (by repeat' constructor) ⟨rfl, ha, hw2⟩
  rintro fr w2 ⟨rfl, ha, hw2⟩
  refine rk_seq ?_
  refine rk_region ?_
  refine wl_p (fun _ => o_assign rfl) ?_
  refine wl_nil ?_
  refine ret1 rfl rfl ?_
  exact ⟨_, rfl, by rw [ha]; simp, hw2⟩

theorem C_ContainsFunc {A : Option Addr} {L : List Dg} {k : Nat} (c : Nat) (hk : k = L.length) (f : FuncId) (cs : List Value) (p : Dg → Bool) (w : World) (hr : RD w A L) (hl : L.length ≤ 4000000)
    (hf : ∀ (q : Dg) (w' : World), Below w.heap.size w w' → CallsR Try.prog f ([vD q] ++ cs) w' fun v w'' => v = .bool (p q) ∧ Below w'.heap.size w' w'') :
    CallsR Try.prog 46 [.slice A k c, .func (.func f) #[] cs.toArray] w fun v w' => v = .bool (L.any p) ∧ Below w.heap.size w w' := by
  refine callsR Try.func46 rfl rfl (by kernel_rfl) rfl ?_
  refine rk_seq ?_
  refine rk_region ?_
  refine wl_p (fun _ => o_assign rfl) ?_
  refine wl_nil ?_
  refine rk_seq ?_
  refine rk_region ?_
  refine wl_p (fun _ => o_move rfl) ?_
  refine wl_p (fun _ => o_move rfl) ?_
  refine wl_call rfl (C_IndexFunc c hk f cs p w hr hl hf) ?_
  rintro _ w2 ⟨r, rfl, hi, hw2⟩
  refine wl_p (fun _ => o_ge rfl rfl) ?_
  refine wl_p (fun _ => o_assign rfl) ?_
  refine wl_nil ?_
  refine ret1 rfl rfl ?_
  refine ⟨congrArg Value.bool ?_, hw2⟩
  rw [Bool.eq_iff_iff, ← hi]
  simp

theorem C_fits1 {b g n : Nat} {L : List Dg} (q : Dg) (w : World) (hg : Blk w g 54 [.map (some b)]) (hS : SetD w b L n) :
    CallsR Try.prog 47 ([vD q] ++ [.pointer (some ⟨g, 0, none⟩)]) w fun v w' => v = .bool (decide (q ∈ L)) ∧ Below w.heap.size w w' := by
  refine callsR Try.func47 rfl rfl (by kernel_rfl) rfl ?_
  refine rk_seq ?_
  refine rk_region ?_
  refine wl_box (B8 q.1) rfl rfl ?_
  intro w1 hB1 hb1 hz1
  have hg1 := hg.under hb1
  refine wl_p (fun _ => o_assign rfl) ?_
  refine wl_nil ?_
  refine rk_seq ?_
  refine rk_region ?_
  refine wl_r (o_loadb (t := 54) Try.isAgg54 rfl hg1 (by rfl)) ?_
  refine wl_r (o_loadDb rfl hB1 rfl) ?_
  refine wl_r (o_lookSet Try.underlying54 Try.zeroValue68 rfl rfl (hS.below hb1)) ?_
  refine wl_p (fun _ => o_move rfl) ?_
  refine wl_p (fun _ => o_ext20 rfl) ?_
  refine wl_p (fun _ => o_ext21 rfl) ?_
  refine wl_alloc [] Try.zeroValue68 rfl ?_
  intro w2 hB2 hb2 hz2
  refine wl_store_all (vs := []) Try.sizeOf68 rfl rfl rfl (by simp) hB2 rfl ?_
  intro w3 hB3 hg3 hz3
  refine wl_p (fun _ => o_assign rfl) ?_
  refine wl_nil ?_
  refine rk_seq ?_
  refine rk_region ?_
  refine wl_p (fun _ => o_move rfl) ?_
  refine wl_p (fun _ => o_assign rfl) ?_
  refine wl_nil ?_
  refine ret1 rfl rfl ?_
  have hw2 := hb1.trans (hb2.mono hb1.size)
  exact ⟨rfl, hw2.trans (below_of_grownBy hg3 hw2.size (by omega))⟩
end Go.Proofs.Ytbncaabcddoicaa
