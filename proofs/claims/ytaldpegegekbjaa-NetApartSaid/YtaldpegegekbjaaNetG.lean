/-
  Walks of package net: a message put.
-/
import Derived.Test.YtaldpegegekbjaaNetF
namespace Go.Proofs.Ytaldpegegekbjaa
open Go.RowKit
/-- The envelopes of a message. -/
def putMore (k f t : Int) (raw : By) : List En := ((List.range k.toNat).filter fun i => decide (((i : Nat) : Int) = t) || (decide (t = -1) && decide (((i : Nat) : Int) ≠ f))).map fun i => (f, ((i : Nat) : Int), raw)
theorem putMore_succ (i : Nat) (f t : Int) (raw : By) : putMore ((i + 1 : Nat) : Int) f t raw = putMore i f t raw ++ (if (i : Int) = t ∨ (t = -1 ∧ (i : Int) ≠ f) then [(f, (i : Int), raw)] else []) := by
  unfold putMore
  simp only [Int.toNat_natCast, List.range_succ, List.filter_append, List.map_append]
  congr 1
  by_cases h : (i : Int) = t ∨ (t = -1 ∧ (i : Int) ≠ f)
  · rw [if_pos h, List.filter_cons_of_pos (by simpa using h)]; rfl
  · rw [if_neg h, List.filter_cons_of_neg (by simpa using h)]; rfl
def putErr (k : Int) (L : List En) (f t : Int) (raw : By) : Int :=
  if netOk k L = false ∨ isNd k f = false ∨ t = f ∨ (t ≠ -1 ∧ isNd k t = false) then 2 else if 16384 < raw.length then 3 else if 512 < L.length + (putMore k f t raw).length then 7 else 0
theorem C_Put {k u t r : Int} {A B : Option Addr} {L : List En} {raw : By} {n c m d : Nat} (w : World) (hL : REn w A L) (hR : Rd w B raw) (hr : putErr k L u t raw = r) (hn : n = L.length) (hnm : n ≤ maxLen) (hm : m = raw.length) (hmm : m ≤ maxLen) (wf : (Lit.int .i64 u).wf = true) (wt : (Lit.int .i64 t).wf = true) :
    CallsR Try.prog 14 [.agg #[.int .i64 k, .slice A n c], .int .i64 u, .agg #[.int .i64 t, .slice B m d]] w fun v w' => ∃ k' A' c' Q x, v = .tuple #[.agg #[.int .i64 k', .slice A' Q.length c'], .int .i64 x, .int .i64 r] ∧ OwnEn w.heap.size w' w.heap.size w'.heap.size A' c' Q ∧ (r = 0 → k' = k ∧ Q = L ++ putMore k u t raw ∧ x = (putMore k u t raw).length) ∧ (r ≠ 0 → k' = 0 ∧ Q = [] ∧ x = 0) ∧ Below w.heap.size w w' := by
  subst hn; subst hm
  obtain ⟨e, he⟩ : ∃ e, netErr k L = e := ⟨_, rfl⟩
  refine callsR Try.func14 rfl rfl (by kernel_rfl) rfl ?_
  have hw := Below.refl w.heap.size w
  refine rk_seq ?_
  refine rk_region ?_
  refine wl_boxg [_, _] rfl (by rfl) ?_
  rintro g3 w3 f3 b3 i3 i3_1
  have s3 := b3.size
  replace hw := hw.trans (b3.mono hw.size)
  refine wl_boxg [_, _] rfl (by rfl) ?_
  rintro g5 w5 f5 b5 i5 i5_1
  have s5 := b5.size
  replace hw := hw.trans (b5.mono hw.size)
  replace f3 := f3.u b5
  refine wl_allocg [_, _] Try.zeroValue27 (by rfl) ?_
  rintro g6 w6 f6 b6 i6 i6_1
  have s6 := b6.size
  replace hw := hw.trans (b6.mono hw.size)
  replace f3 := f3.u b6
  replace f5 := f5.u b6
  refine wl_p (fun _ => o_assign rfl) ?_
  refine wl_p (fun _ => o_assign rfl) ?_
  refine wl_nil ?_
  refine rk_seq ?_
  refine rk_seq ?_
  refine rk_region ?_
  refine wl_r (o_loadag Try.isAgg27 Try.sizeOf27 rfl f3 (by rfl)) ?_
  refine wl_call rfl (C_Check _ (hL.u hw) he rfl (by omega)) ?_
  rintro v12 w12 ⟨rfl, b12⟩
  have s12 := b12.size
  replace hw := hw.trans (b12.mono hw.size)
  replace f5 := f5.u b12
  replace f3 := f3.u b12
  replace f6 := f6.u b12
  refine wl_p (fun _ => o_ne rfl rfl) ?_
  refine wl_p (fun _ => o_move rfl) ?_
  have fail : ∀ {w' : World}, r ≠ 0 → Below w.heap.size w w' → ∃ k' A' c' Q x, (.tuple #[.agg #[.int .i64 0, .slice none 0 0], .int .i64 0, .int .i64 r] : Value) = .tuple #[.agg #[.int .i64 k', .slice A' (List.length Q) c'], .int .i64 x, .int .i64 r] ∧ OwnEn w.heap.size w' w.heap.size w'.heap.size A' c' Q ∧ (r = 0 → k' = k ∧ Q = L ++ putMore k u t raw ∧ x = (putMore k u t raw).length) ∧ (r ≠ 0 → k' = 0 ∧ Q = [] ∧ x = 0) ∧ Below w.heap.size w w' :=
    fun hr0 hw => ⟨0, none, 0, [], 0, rfl, OwnEn.nil_, fun h => absurd h hr0, fun _ => ⟨rfl, rfl, rfl⟩, hw⟩
  have hno : netOk k L = decide (e = 0) := by
    rw [← he]; unfold netErr
    cases netOk k L <;> rfl
  have bad : (netOk k L = false ∨ isNd k u = false ∨ t = u ∨ (t ≠ -1 ∧ isNd k t = false)) → r = 2 := fun h => by rw [← hr]; unfold putErr; rw [if_pos h]
  refine wl_bool 14 rfl (fun h14 => ?_) (fun h14 => ?_) <;> try simp only [decide_eq_true_eq, decide_eq_false_iff_not, Bool.not_eq_true', Bool.not_eq_false', Bool.and_eq_true, Bool.and_eq_false_iff, Bool.or_eq_true, Bool.or_eq_false_iff] at h14
  · refine wl_off ?_
    refine wl_off ?_
    refine wl_off ?_
    refine wl_off ?_
    refine wl_p (fun _ => o_pick_t rfl rfl) ?_
    refine wl_p (fun _ => o_move rfl) ?_
    refine wl_off ?_
    refine wl_off ?_
    refine wl_off ?_
    refine wl_off ?_
    refine wl_p (fun _ => o_pick_t rfl rfl) ?_
    refine wl_p (fun _ => o_move rfl) ?_
    refine wl_off ?_
    refine wl_off ?_
    refine wl_off ?_
    refine wl_off ?_
    refine wl_off ?_
    refine wl_off ?_
    refine wl_off ?_
    refine wl_off ?_
    refine wl_off ?_
    refine wl_off ?_
    refine wl_p (fun _ => o_pick_t rfl rfl) ?_
    refine wl_nil ?_
    refine rk_true rfl ?_
    refine rk_seq ?_
    refine rk_region ?_
    refine wl_p (fun _ => (o_buildg [_, _] Try.underlying27 Try.zeroValue27 (by rfl) (by rfl) rfl (by rfl) (by rfl) (fun _ => by kernel_rfl))) ?_
    refine wl_storega Try.sizeOf27 rfl rfl (by rfl) (by decide) f6 (by rfl) ?_
    rintro w_1 f g e_1
    have s := g.size
    replace hw := hw.trans (below_of_grownBy g.g hw.size (by omega))
    replace f3 := f3.k g.g (ap_some (by omega))
    replace f5 := f5.k g.g (ap_some (by omega))
    clear f6
    refine wl_p (fun _ => o_assign rfl) ?_
    refine wl_p (fun _ => o_assign rfl) ?_
    refine wl_nil ?_
    rw [← bad (.inl (by rw [hno]; exact decide_eq_false h14))]
    refine ret_any rfl (.cell rfl Try.isAgg27 Try.sizeOf27 (by assumption) rfl <| .tmp rfl <| .tmp rfl <| .nil) (by simp) ?_
    exact fail (by rw [bad (.inl (by rw [hno]; exact decide_eq_false h14))]; decide) hw
  refine wl_r (o_loadag Try.isAgg27 Try.sizeOf27 rfl f3 (by rfl)) ?_
  refine wl_p (fun _ => o_move rfl) ?_
  refine wl_call rfl (C_isNode _) ?_
  rintro v17 w17 ⟨rfl, b17⟩
  have s17 := b17.size
  replace hw := hw.trans (b17.mono hw.size)
  replace f6 := f6.u b17
  replace f3 := f3.u b17
  replace f5 := f5.u b17
  refine wl_p (fun _ => o_not rfl) ?_
  refine wl_p (fun _ => o_pick_f rfl rfl) ?_
  refine wl_p (fun _ => o_move rfl) ?_
  refine wl_bool 20 rfl (fun h20 => ?_) (fun h20 => ?_) <;> try simp only [decide_eq_true_eq, decide_eq_false_iff_not, Bool.not_eq_true', Bool.not_eq_false', Bool.and_eq_true, Bool.and_eq_false_iff, Bool.or_eq_true, Bool.or_eq_false_iff] at h20
  · refine wl_off ?_
    refine wl_off ?_
    refine wl_off ?_
    refine wl_off ?_
    refine wl_p (fun _ => o_pick_t rfl rfl) ?_
    refine wl_p (fun _ => o_move rfl) ?_
    refine wl_off ?_
    refine wl_off ?_
    refine wl_off ?_
    refine wl_off ?_
    refine wl_off ?_
    refine wl_off ?_
    refine wl_off ?_
    refine wl_off ?_
    refine wl_off ?_
    refine wl_off ?_
    refine wl_p (fun _ => o_pick_t rfl rfl) ?_
    refine wl_nil ?_
    refine rk_true rfl ?_
    refine rk_seq ?_
    refine rk_region ?_
    refine wl_p (fun _ => (o_buildg [_, _] Try.underlying27 Try.zeroValue27 (by rfl) (by rfl) rfl (by rfl) (by rfl) (fun _ => by kernel_rfl))) ?_
    refine wl_storega Try.sizeOf27 rfl rfl (by rfl) (by decide) f6 (by rfl) ?_
    rintro w_1 f g e_1
    have s := g.size
    replace hw := hw.trans (below_of_grownBy g.g hw.size (by omega))
    replace f5 := f5.k g.g (ap_some (by omega))
    replace f3 := f3.k g.g (ap_some (by omega))
    clear f6
    refine wl_p (fun _ => o_assign rfl) ?_
    refine wl_p (fun _ => o_assign rfl) ?_
    refine wl_nil ?_
    have hr2 := bad (.inr (.inl h20))
    rw [← hr2]
    refine ret_any rfl (.cell rfl Try.isAgg27 Try.sizeOf27 (by assumption) rfl <| .tmp rfl <| .tmp rfl <| .nil) (by simp) ?_
    exact fail (by rw [hr2]; decide) hw
  refine wl_p (fun _ => o_faddr (s := 34) (i := 0) (off := 0) Try.underlying34 rfl Try.sizeOf3 rfl rfl rfl) ?_
  refine wl_r (o_loadbg Try.isAgg3 rfl f5 (by rfl)) ?_
  refine wl_p (fun _ => o_move rfl) ?_
  refine wl_p (fun _ => o_eq rfl rfl) ?_
  refine wl_p (fun _ => o_pick_f rfl rfl) ?_
  refine wl_p (fun _ => o_move rfl) ?_
  refine wl_bool 26 rfl (fun h26 => ?_) (fun h26 => ?_) <;> try simp only [decide_eq_true_eq, decide_eq_false_iff_not, Bool.not_eq_true', Bool.not_eq_false', Bool.and_eq_true, Bool.and_eq_false_iff, Bool.or_eq_true, Bool.or_eq_false_iff] at h26
  · refine wl_off ?_
    refine wl_off ?_
    refine wl_off ?_
    refine wl_off ?_
    refine wl_off ?_
    refine wl_off ?_
    refine wl_off ?_
    refine wl_off ?_
    refine wl_off ?_
    refine wl_off ?_
    refine wl_p (fun _ => o_pick_t rfl rfl) ?_
    refine wl_nil ?_
    refine rk_true rfl ?_
    refine rk_seq ?_
    refine rk_region ?_
    refine wl_p (fun _ => (o_buildg [_, _] Try.underlying27 Try.zeroValue27 (by rfl) (by rfl) rfl (by rfl) (by rfl) (fun _ => by kernel_rfl))) ?_
    refine wl_storega Try.sizeOf27 rfl rfl (by rfl) (by decide) f6 (by rfl) ?_
    rintro w_1 f g e_1
    have s := g.size
    replace hw := hw.trans (below_of_grownBy g.g hw.size (by omega))
    replace f5 := f5.k g.g (ap_some (by omega))
    replace f3 := f3.k g.g (ap_some (by omega))
    clear f6
    refine wl_p (fun _ => o_assign rfl) ?_
    refine wl_p (fun _ => o_assign rfl) ?_
    refine wl_nil ?_
    have hr2 := bad (.inr (.inr (.inl h26)))
    rw [← hr2]
    refine ret_any rfl (.cell rfl Try.isAgg27 Try.sizeOf27 (by assumption) rfl <| .tmp rfl <| .tmp rfl <| .nil) (by simp) ?_
    exact fail (by rw [hr2]; decide) hw
  refine wl_p (fun _ => o_faddr (s := 34) (i := 0) (off := 0) Try.underlying34 rfl Try.sizeOf3 rfl rfl rfl) ?_
  refine wl_r (o_loadbg Try.isAgg3 rfl f5 (by rfl)) ?_
  refine wl_p (fun _ => o_ne rfl rfl) ?_
  refine wl_p (fun _ => o_move rfl) ?_
  refine wl_joinf 7 (fun fb fr w2 => ∃ b, fr = [(37, .bool b)] ++ fb.drop 1 ∧ (b = true ↔ t ≠ -1 ∧ isNd k t = false) ∧ Blk w2 g6 27 [.int .i64 0, .slice none 0 0] ∧ Blk w2 g3 27 [.int .i64 k, .slice A L.length c] ∧ Blk w2 g5 34 [.int .i64 t, .slice B raw.length d] ∧ w17.heap.size ≤ w2.heap.size ∧ Below w.heap.size w w2) ?_ (fun hj => ?_)
  rotate_left
  · refine wl_bool 30 rfl (fun h30 => ?_) (fun h30 => ?_) <;> try simp only [decide_eq_true_eq, decide_eq_false_iff_not, Bool.not_eq_true', Bool.not_eq_false', Bool.and_eq_true, Bool.and_eq_false_iff, Bool.or_eq_true, Bool.or_eq_false_iff] at h30
    · refine wl_r (o_loadag Try.isAgg27 Try.sizeOf27 rfl f3 (by rfl)) ?_
      refine wl_p (fun _ => o_faddr (s := 34) (i := 0) (off := 0) Try.underlying34 rfl Try.sizeOf3 rfl rfl rfl) ?_
      refine wl_r (o_loadbg Try.isAgg3 rfl f5 (by rfl)) ?_
      refine wl_call rfl (C_isNode _) ?_
      rintro v34 w34 ⟨rfl, b34⟩
      have s34 := b34.size
      replace hw := hw.trans (b34.mono hw.size)
      replace f5 := f5.u b34
      replace f3 := f3.u b34
      replace f6 := f6.u b34
      refine wl_p (fun _ => o_not rfl) ?_
      refine wl_p (fun _ => o_pick_t rfl rfl) ?_
      refine wl_p (fun _ => o_pick_f rfl rfl) ?_
      exact wl_tof hj (Fr.le_of (by kernel_rfl) (by kernel_rfl) (by repeat' constructor)) ⟨_, rfl, by simp [h30], f6, f3, f5, by omega, hw⟩
    · refine wl_off ?_
      refine wl_off ?_
      refine wl_off ?_
      refine wl_off ?_
      refine wl_off ?_
      refine wl_p (fun _ => o_pick_f rfl rfl) ?_
      refine wl_p (fun _ => o_pick_f rfl rfl) ?_
      exact wl_tof hj (Fr.le_of (by kernel_rfl) (by kernel_rfl) (by repeat' constructor)) ⟨_, rfl, by simp at h30; simp [h30], f6, f3, f5, by omega, hw⟩
  clear hw f3 f5 f6
  rintro fr w2 ⟨b37, rfl, hb37, f6, f3, f5, hsz, hw⟩
  first | refine rk_frame (by simp only [List.cons_append, List.nil_append, List.drop_succ_cons, List.drop_zero]; rfl) ?_ | refine wl_frame (by simp only [List.cons_append, List.nil_append, List.drop_succ_cons, List.drop_zero]; rfl) ?_
  refine rk_cond rfl (fun h37 => ?_) (fun h37 => ?_) <;> try simp only [decide_eq_true_eq, decide_eq_false_iff_not, Bool.not_eq_true', Bool.not_eq_false', Bool.and_eq_true, Bool.and_eq_false_iff, Bool.or_eq_true, Bool.or_eq_false_iff] at h37
  · refine rk_seq ?_
    refine rk_region ?_
    refine wl_p (fun _ => (o_buildg [_, _] Try.underlying27 Try.zeroValue27 (by rfl) (by rfl) rfl (by rfl) (by rfl) (fun _ => by kernel_rfl))) ?_
    refine wl_storega Try.sizeOf27 rfl rfl (by rfl) (by decide) f6 (by rfl) ?_
    rintro w_1 f g e_1
    have s := g.size
    replace hw := hw.trans (below_of_grownBy g.g hw.size (by omega))
    replace f5 := f5.k g.g (ap_some (by omega))
    replace f3 := f3.k g.g (ap_some (by omega))
    clear f6
    refine wl_p (fun _ => o_assign rfl) ?_
    refine wl_p (fun _ => o_assign rfl) ?_
    refine wl_nil ?_
    have hr2 := bad (.inr (.inr (.inr (hb37.1 h37))))
    rw [← hr2]
    refine ret_any rfl (.cell rfl Try.isAgg27 Try.sizeOf27 (by assumption) rfl <| .tmp rfl <| .tmp rfl <| .nil) (by simp) ?_
    exact fail (by rw [hr2]; decide) hw
  have hput : r = if 16384 < raw.length then 3 else if 512 < L.length + (putMore k u t raw).length then 7 else 0 := by
    rw [← hr]; unfold putErr; rw [if_neg]
    rintro (h | h | h | h)
    · rw [hno] at h; exact h14 (of_decide_eq_false h)
    · rw [h] at h20; cases h20
    · exact h26 h
    · rw [hb37.2 h] at h37; cases h37
  refine rk_skip ?_
  refine rk_seq ?_
  refine rk_seq ?_
  refine rk_region ?_
  refine wl_p (fun _ => o_faddr (s := 34) (i := 1) (off := 1) Try.underlying34 rfl Try.sizeOf32 rfl rfl rfl) ?_
  refine wl_r (o_loadbg Try.isAgg32 rfl f5 (by rfl)) ?_
  refine wl_p (fun _ => o_len (t := 32) Try.underlying32 rfl) ?_
  refine wl_p (fun _ => o_gt rfl rfl) ?_
  refine wl_nil ?_
  refine rk_if rfl (fun h42 => ?_) (fun h42 => ?_)
  · refine rk_seq ?_
    refine rk_region ?_
    refine wl_p (fun _ => (o_buildg [_, _] Try.underlying27 Try.zeroValue27 (by rfl) (by rfl) rfl (by rfl) (by rfl) (fun _ => by kernel_rfl))) ?_
    refine wl_storega Try.sizeOf27 rfl rfl (by rfl) (by decide) f6 (by rfl) ?_
    rintro w_1 f g e_1
    have s := g.size
    replace hw := hw.trans (below_of_grownBy g.g hw.size (by omega))
    replace f5 := f5.k g.g (ap_some (by omega))
    replace f3 := f3.k g.g (ap_some (by omega))
    clear f6
    refine wl_p (fun _ => o_assign rfl) ?_
    refine wl_p (fun _ => o_assign rfl) ?_
    refine wl_nil ?_
    have hr3 : r = 3 := by rw [hput, if_pos (by omega)]
    rw [← hr3]
    refine ret_any rfl (.cell rfl Try.isAgg27 Try.sizeOf27 (by assumption) rfl <| .tmp rfl <| .tmp rfl <| .nil) (by simp) ?_
    exact fail (by rw [hr3]; decide) hw
  refine rk_skip ?_
  refine rk_seq ?_
  refine rk_region ?_
  refine wl_allocg [_] Try.zeroValue25 (by rfl) ?_
  rintro g9 w9 f9 b9 i9 i9_1
  have s9 := b9.size
  replace hw := hw.trans (b9.mono hw.size)
  replace f5 := f5.u b9
  replace f3 := f3.u b9
  replace f6 := f6.u b9
  refine wl_nil ?_
  refine rk_seq ?_
  refine rk_seq ?_
  refine rk_region ?_
  refine wl_p (fun _ => o_faddr (s := 27) (i := 0) (off := 0) Try.underlying27 rfl Try.sizeOf3 rfl rfl rfl) ?_
  refine wl_r (o_loadbg Try.isAgg3 rfl f3 (by rfl)) ?_
  refine wl_p (fun _ => o_move rfl) ?_
  refine wl_nil ?_
  refine rk_block ?_
  obtain ⟨K, rfl⟩ : ∃ K : Nat, k = K := ⟨k.toNat, by
    have := netOk_parts (k := k) (L := L) (by rw [hno]; exact decide_eq_true (by omega))
    omega⟩
  obtain ⟨_, hK7', hl5, hall⟩ := netOk_parts (k := K) (L := L) (by rw [hno]; exact decide_eq_true (by omega))
  have hK7 : K ≤ 7 := by omega
  have hraw : ∀ e ∈ L, e.2.2.length ≤ 16384 := fun e h => (hall e h).2
  refine rk_joinf (fun fb fr w2 => ∃ A1 c1 l1, fr = [] ++ fb.drop 1 ∧ l1 = putMore K u t raw ∧ l1.length ≤ 7 ∧ OwnEn w.heap.size w2 w9.heap.size w2.heap.size A1 c1 l1 ∧ Blk w2 g9 25 [.slice A1 l1.length c1] ∧ Blk w2 g6 27 [.int .i64 0, .slice none 0 0] ∧ Blk w2 g3 27 [.int .i64 K, .slice A L.length c] ∧ w9.heap.size ≤ w2.heap.size ∧ Below w.heap.size w w2) ?_ (fun ks hj => ?_)
  rotate_left
  · refine rk_loopf (fun fb m fr w2 => ∃ (i : Nat) (v : Int) (A1 : Option Addr) (c1 : Nat) (l1 : List En), fr = [(46, .int .i64 v)] ++ fb.drop 1 ∧ v = i ∧ i ≤ K ∧ m = K - i ∧ l1 = putMore i u t raw ∧ l1.length ≤ i ∧ OwnEn w.heap.size w2 w9.heap.size w2.heap.size A1 c1 l1 ∧ Blk w2 g9 25 [.slice A1 l1.length c1] ∧ Blk w2 g5 34 [.int .i64 t, .slice B raw.length d] ∧ Blk w2 g6 27 [.int .i64 0, .slice none 0 0] ∧ Blk w2 g3 27 [.int .i64 K, .slice A L.length c] ∧ w9.heap.size ≤ w2.heap.size ∧ Below w.heap.size w w2) (n := K) (Fr.le_of (by kernel_rfl) (by kernel_rfl) (by repeat' constructor)) ⟨0, _, none, 0, [], rfl, rfl, by omega, rfl, rfl, by simp, OwnEn.nil_, f9, f5, f6, f3, Nat.le_refl _, hw⟩ ?_
    clear hw f3 f5 f6 f9
    rintro m fr w2 ⟨i, v, A1, c1, l1, rfl, rfl, hi, rfl, hl1, hlen, fo, f9, f5, f6, f3, hsz, hw⟩
    have shw := hw.size
    first | refine rk_frame (by simp only [List.cons_append, List.nil_append, List.drop_succ_cons, List.drop_zero]; rfl) ?_ | refine wl_frame (by simp only [List.cons_append, List.nil_append, List.drop_succ_cons, List.drop_zero]; rfl) ?_
    refine rk_seq ?_
    refine rk_region ?_
    refine wl_p (fun _ => o_lt rfl rfl) ?_
    refine wl_nil ?_
    refine rk_seq ?_
    refine rk_if rfl (fun h47 => ?_) (fun h47 => ?_)
    · refine rk_skip ?_
      refine rk_seq ?_
      refine rk_block ?_
      refine rk_seq ?_
      refine rk_region ?_
      refine wl_p (fun _ => o_move rfl) ?_
      refine wl_p (fun _ => o_assign rfl) ?_
      refine wl_nil ?_
      refine rk_seq ?_
      refine rk_region ?_
      refine wl_p (fun _ => o_move rfl) ?_
      refine wl_p (fun _ => o_faddr (s := 34) (i := 0) (off := 0) Try.underlying34 rfl Try.sizeOf3 rfl rfl rfl) ?_
      refine wl_r (o_loadbg Try.isAgg3 rfl f5 (by rfl)) ?_
      refine wl_p (fun _ => o_eq rfl rfl) ?_
      refine wl_p (fun _ => o_move rfl) ?_
      refine wl_joinf 9 (fun fb fr w3 => ∃ b, fr = [(62, .bool b)] ++ fb.drop 1 ∧ (b = true ↔ (i : Int) = t ∨ (t = -1 ∧ (i : Int) ≠ u)) ∧ w3 = w2) ?_ (fun hj => ?_)
      rotate_left
      · refine wl_bool 53 rfl (fun h53 => ?_) (fun h53 => ?_) <;> try simp only [decide_eq_true_eq, decide_eq_false_iff_not, Bool.not_eq_true', Bool.not_eq_false', Bool.and_eq_true, Bool.and_eq_false_iff, Bool.or_eq_true, Bool.or_eq_false_iff] at h53
        · refine wl_off ?_
          refine wl_off ?_
          refine wl_off ?_
          refine wl_off ?_
          refine wl_off ?_
          refine wl_off ?_
          refine wl_off ?_
          refine wl_off ?_
          refine wl_p (fun _ => o_pick_t rfl rfl) ?_
          exact wl_tof hj (Fr.le_of (by kernel_rfl) (by kernel_rfl) (by repeat' constructor)) ⟨_, rfl, by simp [h53], rfl⟩
        · refine wl_p (fun _ => o_faddr (s := 34) (i := 0) (off := 0) Try.underlying34 rfl Try.sizeOf3 rfl rfl rfl) ?_
          refine wl_r (o_loadbg Try.isAgg3 rfl f5 (by rfl)) ?_
          refine wl_p (fun _ => o_eq rfl rfl) ?_
          refine wl_p (fun _ => o_move rfl) ?_
          refine wl_bool 57 rfl (fun h57 => ?_) (fun h57 => ?_) <;> try simp only [decide_eq_true_eq, decide_eq_false_iff_not, Bool.not_eq_true', Bool.not_eq_false', Bool.and_eq_true, Bool.and_eq_false_iff, Bool.or_eq_true, Bool.or_eq_false_iff] at h57
          · refine wl_p (fun _ => o_move rfl) ?_
            refine wl_p (fun _ => o_move rfl) ?_
            refine wl_p (fun _ => o_ne rfl rfl) ?_
            refine wl_p (fun _ => o_pick_t rfl rfl) ?_
            refine wl_p (fun _ => o_pick_f rfl rfl) ?_
            exact wl_tof hj (Fr.le_of (by kernel_rfl) (by kernel_rfl) (by repeat' constructor)) ⟨_, rfl, by simp [h53, h57], rfl⟩
          · refine wl_off ?_
            refine wl_off ?_
            refine wl_off ?_
            refine wl_p (fun _ => o_pick_f rfl rfl) ?_
            refine wl_p (fun _ => o_pick_f rfl rfl) ?_
            exact wl_tof hj (Fr.le_of (by kernel_rfl) (by kernel_rfl) (by repeat' constructor)) ⟨_, rfl, by simp [h53, h57], rfl⟩
      rintro fr w3 ⟨b62, rfl, hb62, rfl⟩
      first | refine rk_frame (by simp only [List.cons_append, List.nil_append, List.drop_succ_cons, List.drop_zero]; rfl) ?_ | refine wl_frame (by simp only [List.cons_append, List.nil_append, List.drop_succ_cons, List.drop_zero]; rfl) ?_
      refine rk_cond rfl (fun h62 => ?_) (fun h62 => ?_) <;> try simp only [decide_eq_true_eq, decide_eq_false_iff_not, Bool.not_eq_true', Bool.not_eq_false', Bool.and_eq_true, Bool.and_eq_false_iff, Bool.or_eq_true, Bool.or_eq_false_iff] at h62
      · have wi : (Lit.int .i64 (i : Int)).wf = true := i64_wf (by omega)
        refine rk_draw (id := 10) (none) [0, 0, 0, 0, 8, 22, 32, 64, 193, 511] [0, 0, 0, 0, 8, 30, 62, 126, 255, 511] 960 192 [(.s, 0), (.p, 1), (.p, 2), (.p, 3), (.r, 4), (.p, 5), (.c, 6), (.c, 7), (.l, 8), (.l, 9)] (by kernel_rfl) (by kernel_rfl) (by kernel_rfl) (by kernel_rfl) (by kernel_rfl) ?_
        replace hw := hw.drew
        replace f3 := f3.d
        replace f6 := f6.d
        replace f5 := f5.d
        replace f9 := f9.d
        replace fo := fo.d
        refine wl_s (fun _ hk => (o_loadbg Try.isAgg25 rfl (f9.u (below_of_grown_none hk)) (by rfl))) ?_
        refine wl_p (fun _ => o_move rfl) ?_
        refine wl_p (fun _ => o_move rfl) ?_
        refine wl_p (fun _ => o_faddr (s := 34) (i := 1) (off := 1) Try.underlying34 rfl Try.sizeOf32 rfl rfl rfl) ?_
        refine wl_r (o_loadbg Try.isAgg32 rfl f5 (by rfl)) ?_
        refine wl_p (fun _ => (o_buildg [_, _, _] Try.underlying38 Try.zeroValue38 (by rfl) (by rfl) rfl (by rfl) (by rfl) (fun _ => by kernel_rfl))) ?_
        refine wl_call rfl (C_clone _ (hR.u hw) rfl (by omega)) ?_ (hq := .inr fun _ _ h => grown_of_below h.choose_spec.choose_spec.2.2 _)
        rintro v69 w69 ⟨A69, ⟨c69, ⟨rfl, ⟨f69, b69⟩⟩⟩⟩
        simp only [drew_size] at f69
        simp only [drew_size] at b69
        have qf69 := f69.cap
        have s69 := b69.size
        simp only [drew_size] at s69
        replace hw := hw.trans (b69.mono hw.size)
        replace fo := fo.u b69
        replace f9 := f9.u b69
        replace f5 := f5.u b69
        replace f6 := f6.u b69
        replace f3 := f3.u b69
        refine wl_litE1 (by rfl) rfl f69 hw (by omega) rfl wf wi (by rfl) ?_
        rintro A70 w70 f70 b70
        have qf70 := f70.cap
        have s70 := b70.size
        replace hw := hw.trans (b70.mono hw.size)
        replace f3 := f3.u b70
        replace f6 := f6.u b70
        replace f5 := f5.u b70
        replace f9 := f9.u b70
        replace fo := fo.u b70
        replace f69 := f69.u b70
        refine wl_appE rfl fo rfl rfl f70.to_REnT (by rfl) (by omega) (by omega) ?_
        rintro A71 c71 w71 f71 g71 b71
        have qf71 := f71.cap
        have s71 := g71.size
        replace hw := hw.trans (b71.mono (by omega))
        replace f69 := f69.y g71 (by decide)
        replace f9 := f9.y g71 (by decide)
        replace f5 := f5.y g71 (by decide)
        replace f6 := f6.y g71 (by decide)
        replace f3 := f3.y g71 (by decide)
        replace f70 := f70.q g71 (fo.ap (by omega)) (by decide)
        clear fo
        refine wl_storeg1 Try.sizeOf25 rfl rfl (by rfl) f9 (by simp) ?_
        rintro w_1 f g e_1
        have s := g.size
        replace hw := hw.trans (below_of_grownBy g.g hw.size (by omega))
        replace f70 := f70.y g (by decide)
        replace f3 := f3.k g.g (ap_some (by omega))
        replace f6 := f6.k g.g (ap_some (by omega))
        replace f5 := f5.k g.g (ap_some (by omega))
        replace f69 := f69.k g.g (ap_some (by omega))
        replace f71 := f71.y g (by decide)
        clear f9
        refine wl_nild ?_
        refine rk_blk ?_
        refine rk_region ?_
        refine wl_p (fun _ => o_add rfl rfl (by omega) (by omega)) ?_
        refine wl_p (fun _ => o_move rfl) ?_
        refine wl_nil ?_
        exact rk_againf (Fr.le_of (by kernel_rfl) (by kernel_rfl) (by repeat' constructor)) ⟨i + 1, _, A71, c71, l1 ++ [(u, (i : Int), raw)], rfl, rfl, by omega, rfl, by rw [putMore_succ, if_pos (hb62.1 h62), hl1], by rw [List.length_append]; simp; omega, f71.top, f, f5, f6, f3, by omega, hw⟩ (by omega)
      · refine rk_skip ?_
        refine rk_blk ?_
        refine rk_region ?_
        refine wl_p (fun _ => o_add rfl rfl (by omega) (by omega)) ?_
        refine wl_p (fun _ => o_move rfl) ?_
        refine wl_nil ?_
        exact rk_againf (Fr.le_of (by kernel_rfl) (by kernel_rfl) (by repeat' constructor)) ⟨i + 1, _, A1, c1, l1, rfl, rfl, by omega, rfl, by rw [putMore_succ, if_neg (fun h => by rw [hb62.2 h] at h62; cases h62), hl1, List.append_nil], by omega, fo, f9, f5, f6, f3, by omega, hw⟩ (by omega)
    · refine rk_exit rfl ?_
      obtain rfl : i = K := by omega
      exact rk_tof hj (Fr.le_of (by kernel_rfl) (by kernel_rfl) (by repeat' constructor)) ⟨_, _, _, rfl, hl1, by omega, fo, f9, f6, f3, hsz, hw⟩
  clear hw f3 f5 f6 f9
  rintro fr w2 ⟨A1, c1, l1, rfl, hl1, h7, fo, f9, f6, f3, hsz, hw⟩
  have shw := hw.size
  first | refine rk_frame (by simp only [List.cons_append, List.nil_append, List.drop_succ_cons, List.drop_zero]; rfl) ?_ | refine wl_frame (by simp only [List.cons_append, List.nil_append, List.drop_succ_cons, List.drop_zero]; rfl) ?_
  rw [← hl1] at hput
  refine rk_seq ?_
  refine rk_seq ?_
  refine rk_region ?_
  refine wl_p (fun _ => o_faddr (s := 27) (i := 1) (off := 1) Try.underlying27 rfl Try.sizeOf25 rfl rfl rfl) ?_
  refine wl_r (o_loadbg Try.isAgg25 rfl f3 (by rfl)) ?_
  refine wl_p (fun _ => o_len (t := 25) Try.underlying25 rfl) ?_
  refine wl_r (o_loadbg Try.isAgg25 rfl f9 (by rfl)) ?_
  refine wl_p (fun _ => o_len (t := 25) Try.underlying25 rfl) ?_
  refine wl_p (fun _ => o_add rfl rfl (by omega) (by omega)) ?_
  refine wl_p (fun _ => o_gt rfl rfl) ?_
  refine wl_nil ?_
  refine rk_if rfl (fun h79 => ?_) (fun h79 => ?_)
  · refine rk_seq ?_
    refine rk_region ?_
    refine wl_p (fun _ => (o_buildg [_, _] Try.underlying27 Try.zeroValue27 (by rfl) (by rfl) rfl (by rfl) (by rfl) (fun _ => by kernel_rfl))) ?_
    refine wl_storega Try.sizeOf27 rfl rfl (by rfl) (by decide) f6 (by rfl) ?_
    rintro w_1 f g e_1
    have s := g.size
    replace hw := hw.trans (below_of_grownBy g.g hw.size (by omega))
    replace f3 := f3.k g.g (ap_some (by omega))
    replace f9 := f9.k g.g (ap_some (by omega))
    replace fo := fo.y g (by decide)
    clear f6
    refine wl_p (fun _ => o_assign rfl) ?_
    refine wl_p (fun _ => o_assign rfl) ?_
    refine wl_nil ?_
    have hr7 : r = 7 := by rw [hput, if_neg (by omega), if_pos (by omega)]
    rw [← hr7]
    refine ret_any rfl (.cell rfl Try.isAgg27 Try.sizeOf27 (by assumption) rfl <| .tmp rfl <| .tmp rfl <| .nil) (by simp) ?_
    exact fail (by rw [hr7]; decide) hw
  have hr0 : r = 0 := by rw [hput, if_neg (by omega), if_neg (by omega)]
  refine rk_skip ?_
  refine rk_seq ?_
  refine rk_drawo (id := 14) (some g6) [0, 0, 3, 0, 8, 7, 63, 127] [0, 0, 3, 0, 8, 7, 63, 127] 36 36 [0, 1, 3, 4, 2, 5, 6, 7] [(.r, 0), (.p, 1), (.s, 3), (.p, 4), (.c, 2), (.c, 5), (.p, 6), (.p, 7)] (by kernel_rfl) (by kernel_rfl) (by kernel_rfl) (by kernel_rfl) (by kernel_rfl) ?_
  dsimp only [inOrder, nthOp]
  replace hw := hw.drew
  replace f3 := f3.d
  replace f6 := f6.d
  replace f9 := f9.d
  replace fo := fo.d
  refine wl_r (o_loadag Try.isAgg27 Try.sizeOf27 rfl f3 (by rfl)) ?_
  refine wl_p (fun _ => o_makeFunc (xs := [.tmp 9]) rfl) ?_
  refine wl_s (fun _ hk => (o_loadbg Try.isAgg25 rfl (f9.k hk (ap_some (by omega))) (by rfl))) ?_
  refine wl_p (fun _ => o_len (t := 25) Try.underlying25 rfl) ?_
  have H : ∀ w1 A2 c2, OwnEn w.heap.size w1 w2.drew.heap.size w1.heap.size A2 c2 L → Below w2.drew.heap.size w2.drew w1 → CallsR Try.prog 31 ([.slice A2 L.length c2] ++ (#[Value.pointer (some ⟨g9, 0, none⟩)] : Array Value).toList) w1 fun v w' => ∃ A' c', v = .slice A' (L ++ l1).length c' ∧ OwnEn w.heap.size w' w2.drew.heap.size w'.heap.size A' c' (L ++ l1) ∧ w1.grownBy w' (blk A2) ∧ Below w2.drew.heap.size w1 w' :=
    fun w1 A2 c2 ho hb1 => C_Put1 w1 ho (f9.u hb1) (fo.u hb1).to_REnT rfl rfl (by omega) hb1.size
  refine wl_call rfl (C_change w2.drew hw.size (hL.u hw) rfl hl5 (by omega) hK7' hraw H) ?_ (hq := .inr fun _ _ ⟨_, _, _, _, h⟩ => grown_of_below h _)
  rintro v83 w83 ⟨A83, c83, rfl, f83, b83⟩
  replace hw := hw.trans (b83.mono hw.size)
  replace f6 := f6.u b83
  have hs83 := b83.size
  clear f3 f9 fo
  refine wl_storega Try.sizeOf27 rfl rfl (by rfl) (oneCell_of (by rfl)) f6 (by rfl) ?_ (hq := .inr rfl)
  rintro w_1 f g e_1
  have s := g.size
  replace hw := hw.trans (below_of_grownBy g.g hw.size (by omega))
  replace f83 := f83.y g (by decide)
  clear f6
  refine wl_p (fun _ => o_assign rfl) ?_
  refine wl_p (fun _ => o_assign rfl) ?_
  refine wl_nild ?_
  rw [hr0]
  refine ret_any rfl (.cell rfl Try.isAgg27 Try.sizeOf27 (by assumption) rfl <| .tmp rfl <| .tmp rfl <| .nil) (by simp) ?_
  exact ⟨K, A83, c83, L ++ l1, l1.length, rfl, f83.base shw (by omega), fun _ => ⟨rfl, by rw [hl1], by rw [hl1]⟩, fun h => absurd rfl h, hw⟩
end Go.Proofs.Ytaldpegegekbjaa
