/-
  Walks of package leaf: what is valid, and where a key is found.
-/
import Derived.Test.YtchcpnfafgiifaaLfC
namespace Go.Proofs.Ytchcpnfafgiifaa
open Go.RowKit

theorem C_shapeOfB {A K B : Option Addr} {n q m c e d : Nat} (w : World) (hq : 0 < q) :
    CallsR Try.prog 17 [.agg #[.slice A n c, .slice K q e, .slice B m d]] w fun v w' => v = .iface 51 (.agg #[.slice A n c, .slice K q e, .slice B m d]) ∧ Below w.heap.size w w' := by
  have h := C_shapeOf (A := A) (K := K) (B := B) (n := n) (q := q) (m := m) (c := c) (e := e) (d := d) w
  rwa [if_neg (by omega)] at h
theorem C_shapeOfL {A K B : Option Addr} {n q m c e d : Nat} (w : World) (hq : q = 0) :
    CallsR Try.prog 17 [.agg #[.slice A n c, .slice K q e, .slice B m d]] w fun v w' => v = .iface 49 (.agg #[.slice A n c, .slice B m d]) ∧ Below w.heap.size w w' := by
  have h := C_shapeOf (A := A) (K := K) (B := B) (n := n) (q := q) (m := m) (c := c) (e := e) (d := d) w
  rwa [if_pos hq] at h

/-- A node is valid. -/
def WholeN (items : List (By × By)) (kids : List Int) (keys : List By) : Prop := if kids.length = 0 then WholeL items keys else WholeB items kids keys
theorem C_leafCheck {A K B : Option Addr} {items : List (By × By)} {kids : List Int} {keys : List By} {n q m c e d : Nat} (w : World) (hI : RI w A items) (hZ : RZ w K kids) (hK : RKy w B keys) (hn : n = items.length) (hq : q = kids.length) (hm : m = keys.length) (hl : LightI items) (hlz : kids.length ≤ 4000) (hlk : LightK keys) (hz : ∀ z ∈ kids, (Lit.int .i64 z).wf = true) (he : kids.length ≤ e) :
    CallsR Try.prog 9 [.agg #[.slice A n c, .slice K q e, .slice B m d]] w fun v w' => ∃ z, v = .int .i64 z ∧ (z = 0 ∨ z = 2) ∧ (z = 0 ↔ WholeN items kids keys) ∧ Below w.heap.size w w' := by
  subst hn; subst hq; subst hm
  refine callsR Try.func9 rfl rfl (by kernel_rfl) rfl ?_
  have hw := Below.refl w.heap.size w
  unfold WholeN
  by_cases hq : kids.length = 0
  · rw [if_pos hq]
    refine rk_seq ?_
    refine rk_region ?_
    refine wl_boxg [_, _, _] rfl (by rfl) ?_
    rintro g1 w1 f1 b1 i1 i1_1
    have s1 := b1.size
    replace hw := hw.trans (b1.mono hw.size)
    refine wl_p (fun _ => o_assign rfl) ?_
    refine wl_nil ?_
    refine rk_seq ?_
    refine rk_seq ?_
    refine rk_region ?_
    refine wl_r (o_loadag Try.isAgg26 Try.sizeOf26 rfl f1 (by rfl)) ?_
    refine wl_call rfl (C_shapeOfL _ (by omega)) ?_
    rintro v4 w4 ⟨rfl, b4⟩
    have s4 := b4.size
    replace hw := hw.trans (b4.mono hw.size)
    replace f1 := f1.u b4
    refine wl_invoke rfl rfl (fun _ => by kernel_rfl) (C_wholeLeaf _ (hI.u hw) (hK.u hw) rfl rfl (by omega) (by omega)) ?_
    rintro v5 w5 ⟨b5, ⟨rfl, ⟨i5, b5_1⟩⟩⟩
    have s5 := b5_1.size
    replace hw := hw.trans (b5_1.mono hw.size)
    replace f1 := f1.u b5_1
    refine wl_p (fun _ => o_not rfl) ?_
    refine wl_nil ?_
    refine rk_cond rfl (fun h6 => ?_) (fun h6 => ?_) <;> try simp only [decide_eq_true_eq, decide_eq_false_iff_not, Bool.not_eq_true', Bool.not_eq_false', Bool.and_eq_true, Bool.and_eq_false_iff, Bool.or_eq_true, Bool.or_eq_false_iff] at h6
    · refine rk_seq ?_
      refine rk_region ?_
      refine wl_p (fun _ => o_assign rfl) ?_
      refine wl_nil ?_
      refine ret1 rfl rfl ?_
      exact ⟨_, rfl, .inr rfl, ⟨fun h => (by cases h), fun h => absurd (i5.2 h) (by simp [h6])⟩, hw⟩
    · refine rk_skip ?_
      refine rk_seq ?_
      refine rk_region ?_
      refine wl_p (fun _ => o_assign rfl) ?_
      refine wl_nil ?_
      refine ret1 rfl rfl ?_
      exact ⟨_, rfl, .inl rfl, ⟨fun _ => i5.1 h6, fun _ => rfl⟩, hw⟩
  · rw [if_neg hq]
    refine rk_seq ?_
    refine rk_region ?_
    refine wl_boxg [_, _, _] rfl (by rfl) ?_
    rintro g1 w1 f1 b1 i1 i1_1
    have s1 := b1.size
    replace hw := hw.trans (b1.mono hw.size)
    refine wl_p (fun _ => o_assign rfl) ?_
    refine wl_nil ?_
    refine rk_seq ?_
    refine rk_seq ?_
    refine rk_region ?_
    refine wl_r (o_loadag Try.isAgg26 Try.sizeOf26 rfl f1 (by rfl)) ?_
    refine wl_call rfl (C_shapeOfB _ (by omega)) ?_
    rintro v4 w4 ⟨rfl, b4⟩
    have s4 := b4.size
    replace hw := hw.trans (b4.mono hw.size)
    replace f1 := f1.u b4
    refine wl_invoke rfl rfl (fun _ => by kernel_rfl) (C_wholeBranch _ (hI.u hw) (hZ.u hw) (hK.u hw) rfl rfl rfl (by omega) (by omega) (by omega) (by omega) (by omega)) ?_
    rintro v5 w5 ⟨b5, ⟨rfl, ⟨i5, b5_1⟩⟩⟩
    have s5 := b5_1.size
    replace hw := hw.trans (b5_1.mono hw.size)
    replace f1 := f1.u b5_1
    refine wl_p (fun _ => o_not rfl) ?_
    refine wl_nil ?_
    refine rk_cond rfl (fun h6 => ?_) (fun h6 => ?_) <;> try simp only [decide_eq_true_eq, decide_eq_false_iff_not, Bool.not_eq_true', Bool.not_eq_false', Bool.and_eq_true, Bool.and_eq_false_iff, Bool.or_eq_true, Bool.or_eq_false_iff] at h6
    · refine rk_seq ?_
      refine rk_region ?_
      refine wl_p (fun _ => o_assign rfl) ?_
      refine wl_nil ?_
      refine ret1 rfl rfl ?_
      exact ⟨_, rfl, .inr rfl, ⟨fun h => (by cases h), fun h => absurd (i5.2 h) (by simp [h6])⟩, hw⟩
    · refine rk_skip ?_
      refine rk_seq ?_
      refine rk_region ?_
      refine wl_p (fun _ => o_assign rfl) ?_
      refine wl_nil ?_
      refine ret1 rfl rfl ?_
      exact ⟨_, rfl, .inl rfl, ⟨fun _ => i5.1 h6, fun _ => rfl⟩, hw⟩

theorem C_leafLeaf {A K B : Option Addr} {n q m c e d : Nat} (w : World) :
    CallsR Try.prog 11 [.agg #[.slice A n c, .slice K q e, .slice B m d]] w fun v w' => v = .bool (decide (q = 0)) ∧ Below w.heap.size w w' := by
  refine callsR Try.func11 rfl rfl (by kernel_rfl) rfl ?_
  have hw := Below.refl w.heap.size w
  refine rk_seq ?_
  refine rk_region ?_
  refine wl_boxg [_, _, _] rfl (by rfl) ?_
  rintro g1 w1 f1 b1 i1 i1_1
  have s1 := b1.size
  replace hw := hw.trans (b1.mono hw.size)
  refine wl_p (fun _ => o_assign rfl) ?_
  refine wl_nil ?_
  refine rk_seq ?_
  refine rk_region ?_
  refine wl_p (fun _ => o_faddr (s := 26) (i := 1) (off := 1) Try.underlying26 rfl Try.sizeOf23 rfl rfl rfl) ?_
  refine wl_r (o_loadbg Try.isAgg23 rfl f1 (by rfl)) ?_
  refine wl_p (fun _ => o_len (t := 23) Try.underlying23 rfl) ?_
  refine wl_p (fun _ => o_eq rfl rfl) ?_
  refine wl_p (fun _ => o_assign rfl) ?_
  refine wl_nil ?_
  refine ret1 rfl rfl ?_
  exact ⟨by congr 1; exact decide_eq_decide.2 (by omega), hw⟩

/-- Light nodes, as the statements guard them. -/
def LightN (items : List (By × By)) (kids : List Int) (keys : List By) : Prop := items.length ≤ 40 ∧ kids.length ≤ 40 ∧ keys.length ≤ 40 ∧ (∀ x ∈ items, x.1.length ≤ 200 ∧ x.2.length ≤ 200) ∧ ∀ x ∈ keys, x.length ≤ 200
theorem C_LightNode {A K B : Option Addr} {items : List (By × By)} {kids : List Int} {keys : List By} {n q m c e d : Nat} (w : World) (hI : RI w A items) (hK : RKy w B keys) (hn : n = items.length) (hq : q = kids.length) (hm : m = keys.length) :
    CallsR Try.prog 6 [.agg #[.slice A n c, .slice K q e, .slice B m d]] w fun v w' => ∃ b, v = .bool b ∧ (b = true ↔ LightN items kids keys) ∧ Below w.heap.size w w' := by
  subst hn; subst hq; subst hm
  refine callsR Try.func6 rfl rfl (by kernel_rfl) rfl ?_
  have hw := Below.refl w.heap.size w
  refine rk_seq ?_
  refine rk_region ?_
  refine wl_boxg [_, _, _] rfl (by rfl) ?_
  rintro g1 w1 f1 b1 i1 i1_1
  have s1 := b1.size
  replace hw := hw.trans (b1.mono hw.size)
  refine wl_p (fun _ => o_assign rfl) ?_
  refine wl_nil ?_
  refine rk_seq ?_
  refine rk_seq ?_
  refine rk_region ?_
  refine wl_p (fun _ => o_faddr (s := 26) (i := 0) (off := 0) Try.underlying26 rfl Try.sizeOf22 rfl rfl rfl) ?_
  refine wl_r (o_loadbg Try.isAgg22 rfl f1 (by rfl)) ?_
  refine wl_p (fun _ => o_len (t := 22) Try.underlying22 rfl) ?_
  refine wl_p (fun _ => o_gt rfl rfl) ?_
  refine wl_p (fun _ => o_move rfl) ?_
  refine wl_bool 9 rfl (fun h9 => ?_) (fun h9 => ?_) <;> try simp only [decide_eq_true_eq, decide_eq_false_iff_not, Bool.not_eq_true', Bool.not_eq_false', Bool.and_eq_true, Bool.and_eq_false_iff, Bool.or_eq_true, Bool.or_eq_false_iff] at h9
  · refine wl_off ?_
    refine wl_off ?_
    refine wl_off ?_
    refine wl_off ?_
    refine wl_p (fun _ => o_pick_t rfl rfl) ?_
    refine wl_p (fun _ => o_move rfl) ?_
    refine wl_off ?_
    refine wl_off ?_
    refine wl_off ?_
    refine wl_off ?_
    refine wl_p (fun _ => o_pick_t rfl rfl) ?_
    refine wl_nil ?_
    refine rk_true rfl ?_
    refine rk_seq ?_
    refine rk_region ?_
    refine wl_p (fun _ => o_assign rfl) ?_
    refine wl_nil ?_
    refine ret1 rfl rfl ?_
    exact ⟨_, rfl, ⟨fun h => (by cases h), fun h => absurd h.1 (by omega)⟩, hw⟩
  refine wl_p (fun _ => o_faddr (s := 26) (i := 1) (off := 1) Try.underlying26 rfl Try.sizeOf23 rfl rfl rfl) ?_
  refine wl_r (o_loadbg Try.isAgg23 rfl f1 (by rfl)) ?_
  refine wl_p (fun _ => o_len (t := 23) Try.underlying23 rfl) ?_
  refine wl_p (fun _ => o_gt rfl rfl) ?_
  refine wl_p (fun _ => o_pick_f rfl rfl) ?_
  refine wl_p (fun _ => o_move rfl) ?_
  refine wl_bool 15 rfl (fun h15 => ?_) (fun h15 => ?_) <;> try simp only [decide_eq_true_eq, decide_eq_false_iff_not, Bool.not_eq_true', Bool.not_eq_false', Bool.and_eq_true, Bool.and_eq_false_iff, Bool.or_eq_true, Bool.or_eq_false_iff] at h15
  · refine wl_off ?_
    refine wl_off ?_
    refine wl_off ?_
    refine wl_off ?_
    refine wl_p (fun _ => o_pick_t rfl rfl) ?_
    refine wl_nil ?_
    refine rk_true rfl ?_
    refine rk_seq ?_
    refine rk_region ?_
    refine wl_p (fun _ => o_assign rfl) ?_
    refine wl_nil ?_
    refine ret1 rfl rfl ?_
    exact ⟨_, rfl, ⟨fun h => (by cases h), fun h => absurd h.2.1 (by omega)⟩, hw⟩
  refine wl_p (fun _ => o_faddr (s := 26) (i := 2) (off := 2) Try.underlying26 rfl Try.sizeOf24 rfl rfl rfl) ?_
  refine wl_r (o_loadbg Try.isAgg24 rfl f1 (by rfl)) ?_
  refine wl_p (fun _ => o_len (t := 24) Try.underlying24 rfl) ?_
  refine wl_p (fun _ => o_gt rfl rfl) ?_
  refine wl_p (fun _ => o_pick_f rfl rfl) ?_
  refine wl_nil ?_
  refine rk_if rfl (fun h20 => ?_) (fun h20 => ?_)
  · refine rk_seq ?_
    refine rk_region ?_
    refine wl_p (fun _ => o_assign rfl) ?_
    refine wl_nil ?_
    refine ret1 rfl rfl ?_
    exact ⟨_, rfl, ⟨fun h => (by cases h), fun h => absurd h.2.2.1 (by omega)⟩, hw⟩
  refine rk_skip ?_
  refine rk_seq ?_
  refine rk_seq ?_
  refine rk_region ?_
  refine wl_p (fun _ => o_assign rfl) ?_
  refine wl_nil ?_
  refine rk_block ?_
  refine rk_joinf (fun fb fr w2 => fr = [] ++ fb.drop 1 ∧ (∀ i (h : i < items.length), items[i].1.length ≤ 200 ∧ items[i].2.length ≤ 200) ∧ Below w1.heap.size w1 w2) ?_ (fun ks hj => ?_)
  rotate_left
  · refine rk_loopf (fun fb m fr w2 => ∃ (i : Nat) (v : Int), fr = [(3, .int .i64 v)] ++ fb ∧ v = i ∧ i ≤ items.length ∧ m = items.length - i ∧ (∀ j (h : j < items.length), j < i → items[j].1.length ≤ 200 ∧ items[j].2.length ≤ 200) ∧ Below w1.heap.size w1 w2) (n := items.length) (Fr.le_of (by kernel_rfl) (by kernel_rfl) (by repeat' constructor)) ⟨0, _, rfl, rfl, by omega, rfl, fun j _ h => absurd h (Nat.not_lt_zero _), Below.refl _ _⟩ ?_
    rintro m fr w2 ⟨i, v, rfl, rfl, hi, rfl, hok, hw1⟩
    first | refine rk_frame (by simp only [List.cons_append, List.nil_append, List.drop_succ_cons, List.drop_zero]; rfl) ?_ | refine wl_frame (by simp only [List.cons_append, List.nil_append, List.drop_succ_cons, List.drop_zero]; rfl) ?_
    have shw1 := hw1.size
    replace hw := hw.trans (hw1.mono hw.size)
    replace f1 := f1.u hw1
    refine rk_seq ?_
    refine rk_seq ?_
    refine rk_region ?_
    refine wl_p (fun _ => o_move rfl) ?_
    refine wl_p (fun _ => o_faddr (s := 26) (i := 0) (off := 0) Try.underlying26 rfl Try.sizeOf22 rfl rfl rfl) ?_
    refine wl_r (o_loadbg Try.isAgg22 rfl f1 (by rfl)) ?_
    refine wl_p (fun _ => o_len (t := 22) Try.underlying22 rfl) ?_
    refine wl_p (fun _ => o_lt rfl rfl) ?_
    refine wl_nil ?_
    refine rk_if rfl (fun h25 => ?_) (fun h25 => ?_)
    · have hil : i < items.length := by omega
      refine rk_skip ?_
      refine rk_seq ?_
      refine rk_block ?_
      refine rk_seq ?_
      refine rk_region ?_
      refine wl_p (fun _ => o_faddr (s := 26) (i := 0) (off := 0) Try.underlying26 rfl Try.sizeOf22 rfl rfl rfl) ?_
      refine wl_r (o_loadbg Try.isAgg22 rfl f1 (by rfl)) ?_
      refine wl_p (fun _ => o_move rfl) ?_
      refine wl_p (fun _ => (o_iaddrA (i) Try.underlying22 Try.sizeOf31 rfl rfl rfl (hI.some_ (by omega)) (by omega))) ?_
      refine wl_p (fun _ => (o_faddrR rfl Try.underlying31 (by rfl) Try.sizeOf27 (by rfl) (by rfl))) ?_
      refine wl_ldKey rfl hI hw (by omega) ?_
      rintro A133 c133 f33 i33
      refine wl_p (fun _ => o_len (t := 27) Try.underlying27 rfl) ?_
      refine wl_p (fun _ => o_gt rfl rfl) ?_
      refine wl_p (fun _ => o_move rfl) ?_
      refine wl_bool 36 rfl (fun h36 => ?_) (fun h36 => ?_) <;> try simp only [decide_eq_true_eq, decide_eq_false_iff_not, Bool.not_eq_true', Bool.not_eq_false', Bool.and_eq_true, Bool.and_eq_false_iff, Bool.or_eq_true, Bool.or_eq_false_iff] at h36
      · refine wl_off ?_
        refine wl_off ?_
        refine wl_off ?_
        refine wl_off ?_
        refine wl_off ?_
        refine wl_off ?_
        refine wl_off ?_
        refine wl_off ?_
        refine wl_p (fun _ => o_pick_t rfl rfl) ?_
        refine wl_nil ?_
        refine rk_true rfl ?_
        refine rk_seq ?_
        refine rk_region ?_
        refine wl_p (fun _ => o_assign rfl) ?_
        refine wl_nil ?_
        refine ret1 rfl rfl ?_
        exact ⟨_, rfl, ⟨fun h => (by cases h), fun h => by have := (h.2.2.2.1 _ (List.getElem_mem hil)).1; omega⟩, hw⟩
      refine wl_p (fun _ => o_faddr (s := 26) (i := 0) (off := 0) Try.underlying26 rfl Try.sizeOf22 rfl rfl rfl) ?_
      refine wl_r (o_loadbg Try.isAgg22 rfl f1 (by rfl)) ?_
      refine wl_p (fun _ => o_move rfl) ?_
      refine wl_p (fun _ => (o_iaddrA (i) Try.underlying22 Try.sizeOf31 rfl rfl rfl (hI.some_ (by omega)) (by omega))) ?_
      refine wl_p (fun _ => (o_faddrR rfl Try.underlying31 (by rfl) Try.sizeOf27 (by rfl) (by rfl))) ?_
      refine wl_ldVal rfl hI hw (by omega) ?_
      rintro A142 c142 f42 i42
      refine wl_p (fun _ => o_len (t := 27) Try.underlying27 rfl) ?_
      refine wl_p (fun _ => o_gt rfl rfl) ?_
      refine wl_p (fun _ => o_pick_f rfl rfl) ?_
      refine wl_nil ?_
      refine rk_if rfl (fun h45 => ?_) (fun h45 => ?_)
      · refine rk_seq ?_
        refine rk_region ?_
        refine wl_p (fun _ => o_assign rfl) ?_
        refine wl_nil ?_
        refine ret1 rfl rfl ?_
        exact ⟨_, rfl, ⟨fun h => (by cases h), fun h => by have := (h.2.2.2.1 _ (List.getElem_mem hil)).2; omega⟩, hw⟩
      refine rk_skip ?_
      refine rk_blk ?_
      refine rk_region ?_
      refine wl_p (fun _ => o_move rfl) ?_
      refine wl_p (fun _ => o_add rfl rfl (by omega) (by omega)) ?_
      refine wl_p (fun _ => o_assign rfl) ?_
      refine wl_nil ?_
      exact rk_againf (Fr.le_of (by kernel_rfl) (by kernel_rfl) (by repeat' constructor)) ⟨i + 1, (i : Int) + 1, rfl, by omega, by omega, rfl, fun j hj hji => by
        rcases Nat.lt_or_ge j i with h | h
        · exact hok j hj h
        · obtain rfl : j = i := by omega
          exact ⟨by omega, by omega⟩, hw1⟩ (by omega)
    · refine rk_exit rfl ?_
      exact rk_tof hj (Fr.le_of (by kernel_rfl) (by kernel_rfl) (by repeat' constructor)) ⟨rfl, fun j h => hok j h (by omega), hw1⟩
  rintro fr w2 ⟨rfl, hL1, hw1⟩
  first | refine rk_frame (by simp only [List.cons_append, List.nil_append, List.drop_succ_cons, List.drop_zero]; rfl) ?_ | refine wl_frame (by simp only [List.cons_append, List.nil_append, List.drop_succ_cons, List.drop_zero]; rfl) ?_
  have shw1 := hw1.size
  replace hw := hw.trans (hw1.mono hw.size)
  replace f1 := f1.u hw1
  refine rk_seq ?_
  refine rk_seq ?_
  refine rk_region ?_
  refine wl_p (fun _ => o_assign rfl) ?_
  refine wl_nil ?_
  refine rk_block ?_
  refine rk_joinf (fun fb fr w3 => fr = [] ++ fb.drop 1 ∧ (∀ i (h : i < keys.length), keys[i].length ≤ 200) ∧ Below w2.heap.size w2 w3) ?_ (fun ks hj => ?_)
  rotate_left
  · refine rk_loopf (fun fb m fr w3 => ∃ (i : Nat) (v : Int), fr = [(4, .int .i64 v)] ++ fb ∧ v = i ∧ i ≤ keys.length ∧ m = keys.length - i ∧ (∀ j (h : j < keys.length), j < i → keys[j].length ≤ 200) ∧ Below w2.heap.size w2 w3) (n := keys.length) (Fr.le_of (by kernel_rfl) (by kernel_rfl) (by repeat' constructor)) ⟨0, _, rfl, rfl, by omega, rfl, fun j _ h => absurd h (Nat.not_lt_zero _), Below.refl _ _⟩ ?_
    rintro m fr w3 ⟨i, v, rfl, rfl, hi, rfl, hok, hw2⟩
    first | refine rk_frame (by simp only [List.cons_append, List.nil_append, List.drop_succ_cons, List.drop_zero]; rfl) ?_ | refine wl_frame (by simp only [List.cons_append, List.nil_append, List.drop_succ_cons, List.drop_zero]; rfl) ?_
    have shw2 := hw2.size
    replace hw1 := hw1.trans (hw2.mono hw1.size)
    replace hw := hw.trans (hw2.mono hw.size)
    replace f1 := f1.u hw2
    refine rk_seq ?_
    refine rk_seq ?_
    refine rk_region ?_
    refine wl_p (fun _ => o_move rfl) ?_
    refine wl_p (fun _ => o_faddr (s := 26) (i := 2) (off := 2) Try.underlying26 rfl Try.sizeOf24 rfl rfl rfl) ?_
    refine wl_r (o_loadbg Try.isAgg24 rfl f1 (by rfl)) ?_
    refine wl_p (fun _ => o_len (t := 24) Try.underlying24 rfl) ?_
    refine wl_p (fun _ => o_lt rfl rfl) ?_
    refine wl_nil ?_
    refine rk_if rfl (fun h50 => ?_) (fun h50 => ?_)
    · have hil : i < keys.length := by omega
      refine rk_skip ?_
      refine rk_seq ?_
      refine rk_block ?_
      refine rk_seq ?_
      refine rk_region ?_
      refine wl_p (fun _ => o_faddr (s := 26) (i := 2) (off := 2) Try.underlying26 rfl Try.sizeOf24 rfl rfl rfl) ?_
      refine wl_r (o_loadbg Try.isAgg24 rfl f1 (by rfl)) ?_
      refine wl_p (fun _ => o_move rfl) ?_
      refine wl_p (fun _ => (o_iaddrA1 (i) Try.underlying24 Try.sizeOf27 rfl rfl rfl (hK.some_ (by omega)) (by omega))) ?_
      refine wl_ldKy rfl hK hw (by omega) ?_
      rintro A157 c157 f57 i57
      refine wl_p (fun _ => o_len (t := 27) Try.underlying27 rfl) ?_
      refine wl_p (fun _ => o_gt rfl rfl) ?_
      refine wl_nil ?_
      refine rk_if rfl (fun h59 => ?_) (fun h59 => ?_)
      · refine rk_seq ?_
        refine rk_region ?_
        refine wl_p (fun _ => o_assign rfl) ?_
        refine wl_nil ?_
        refine ret1 rfl rfl ?_
        exact ⟨_, rfl, ⟨fun h => (by cases h), fun h => by have := h.2.2.2.2 _ (List.getElem_mem hil); omega⟩, hw⟩
      refine rk_skip ?_
      refine rk_blk ?_
      refine rk_region ?_
      refine wl_p (fun _ => o_move rfl) ?_
      refine wl_p (fun _ => o_add rfl rfl (by omega) (by omega)) ?_
      refine wl_p (fun _ => o_assign rfl) ?_
      refine wl_nil ?_
      exact rk_againf (Fr.le_of (by kernel_rfl) (by kernel_rfl) (by repeat' constructor)) ⟨i + 1, (i : Int) + 1, rfl, by omega, by omega, rfl, fun j hj hji => by
        rcases Nat.lt_or_ge j i with h | h
        · exact hok j hj h
        · obtain rfl : j = i := by omega
          omega, hw2⟩ (by omega)
    · refine rk_exit rfl ?_
      exact rk_tof hj (Fr.le_of (by kernel_rfl) (by kernel_rfl) (by repeat' constructor)) ⟨rfl, fun j h => hok j h (by omega), hw2⟩
  rintro fr w3 ⟨rfl, hL2, hw2⟩
  first | refine rk_frame (by simp only [List.cons_append, List.nil_append, List.drop_succ_cons, List.drop_zero]; rfl) ?_ | refine wl_frame (by simp only [List.cons_append, List.nil_append, List.drop_succ_cons, List.drop_zero]; rfl) ?_
  have shw2 := hw2.size
  replace hw1 := hw1.trans (hw2.mono hw1.size)
  replace hw := hw.trans (hw2.mono hw.size)
  replace f1 := f1.u hw2
  refine rk_seq ?_
  refine rk_region ?_
  refine wl_p (fun _ => o_assign rfl) ?_
  refine wl_nil ?_
  refine ret1 rfl rfl ?_
  exact ⟨_, rfl, ⟨fun _ => ⟨by omega, by omega, by omega, fun x hx => by obtain ⟨i, h, rfl⟩ := List.getElem_of_mem hx; exact hL1 i h, fun x hx => by obtain ⟨i, h, rfl⟩ := List.getElem_of_mem hx; exact hL2 i h⟩, fun _ => rfl⟩, hw⟩

/-- What Find answers. -/
def FindR (items : List (By × By)) (kids : List Int) (keys : List By) (key : By) (k : Nat) (ok : Bool) : Prop :=
  (WholeN items kids keys ∧ kids.length = 0 → k ≤ items.length ∧ (∀ j (h : j < items.length), j < k → cmpL items[j].1 key < 0) ∧ (∀ h : k < items.length, 0 ≤ cmpL items[k].1 key ∧ (ok = true ↔ cmpL items[k].1 key = 0)) ∧ (k = items.length → ok = false)) ∧ (¬(WholeN items kids keys ∧ kids.length = 0) → k = 0 ∧ ok = false)
theorem C_leafFind {A K B C : Option Addr} {items : List (By × By)} {kids : List Int} {keys : List By} {key : By} {n q m c e d g r : Nat} (w : World) (hI : RI w A items) (hZ : RZ w K kids) (hK : RKy w B keys) (hC : Rd w C key) (hn : n = items.length) (hq : q = kids.length) (hm : m = keys.length) (hg : g = key.length) (hl : LightI items) (hlz : kids.length ≤ 4000) (hlk : LightK keys) (hz : ∀ z ∈ kids, (Lit.int .i64 z).wf = true) (he : kids.length ≤ e) (hkl : key.length ≤ 4000000000) :
    CallsR Try.prog 7 [.agg #[.slice A n c, .slice K q e, .slice B m d], .slice C g r] w fun v w' => ∃ (k : Nat) (ok : Bool), v = .tuple #[.int .i64 k, .bool ok] ∧ FindR items kids keys key k ok ∧ Below w.heap.size w w' := by
  subst hn; subst hq; subst hm; subst hg
  unfold FindR
  refine callsR Try.func7 rfl rfl (by kernel_rfl) rfl ?_
  have hw := Below.refl w.heap.size w
  refine rk_seq ?_
  refine rk_region ?_
  refine wl_boxg [_, _, _] rfl (by rfl) ?_
  rintro g2 w2 f2 b2 i2 i2_1
  have s2 := b2.size
  replace hw := hw.trans (b2.mono hw.size)
  refine wl_p (fun _ => o_assign rfl) ?_
  refine wl_p (fun _ => o_assign rfl) ?_
  refine wl_nil ?_
  refine rk_seq ?_
  refine rk_seq ?_
  refine rk_region ?_
  refine wl_r (o_loadag Try.isAgg26 Try.sizeOf26 rfl f2 (by rfl)) ?_
  refine wl_call rfl (C_leafCheck _ (hI.u hw) (hZ.u hw) (hK.u hw) rfl rfl rfl (by omega) (by omega) (by omega) (by omega) (by omega)) ?_
  rintro v11 w11 ⟨z11, ⟨rfl, ⟨i11, ⟨i11_1, b11⟩⟩⟩⟩
  have s11 := b11.size
  replace hw := hw.trans (b11.mono hw.size)
  replace f2 := f2.u b11
  refine wl_p (fun _ => o_ne rfl rfl) ?_
  refine wl_nil ?_
  refine rk_if rfl (fun h12 => ?_) (fun h12 => ?_)
  · refine rk_seq ?_
    refine rk_region ?_
    refine wl_p (fun _ => o_assign rfl) ?_
    refine wl_p (fun _ => o_assign rfl) ?_
    refine wl_nil ?_
    refine ret2 rfl rfl rfl ?_
    exact ⟨0, false, rfl, ⟨fun h => absurd (i11_1.2 h.1) h12, fun _ => ⟨rfl, rfl⟩⟩, hw⟩
  have hW : WholeN items kids keys := i11_1.1 (by omega)
  by_cases hq : kids.length = 0
  · refine rk_skip ?_
    refine rk_seq ?_
    refine rk_seq ?_
    refine rk_region ?_
    refine wl_r (o_loadag Try.isAgg26 Try.sizeOf26 rfl f2 (by rfl)) ?_
    refine wl_call rfl (C_shapeOfL _ (by omega)) ?_
    rintro v14 w14 ⟨rfl, b14⟩
    have s14 := b14.size
    replace hw := hw.trans (b14.mono hw.size)
    replace f2 := f2.u b14
    refine wl_nil ?_
    refine rk_block ?_
    refine rk_seq ?_
    refine rk_region ?_
    refine wl_p (fun _ => (o_assertYes Try.underlying49 rfl)) ?_
    refine wl_p (fun _ => o_ext21 rfl) ?_
    refine wl_p (fun _ => o_ext20 rfl) ?_
    refine wl_nil ?_
    refine rk_true rfl ?_
    refine rk_seq ?_
    refine rk_region ?_
    refine wl_allocg [_, _] Try.zeroValue49 (by rfl) ?_
    rintro g6 w6 f6 b6 i6 i6_1
    have s6 := b6.size
    replace hw := hw.trans (b6.mono hw.size)
    replace f2 := f2.u b6
    refine wl_storega Try.sizeOf49 rfl rfl (by rfl) (oneCell_of (by rfl)) f6 (by rfl) ?_
    rintro w_1 f g e_1
    have s := g.size
    replace hw := hw.trans (below_of_grownBy g.g hw.size (by omega))
    replace f2 := f2.k g.g (ap_some (by omega))
    clear f6
    refine wl_nil ?_
    refine rk_seq ?_
    refine rk_seq ?_
    refine rk_region ?_
    refine wl_p (fun _ => o_faddr (s := 49) (i := 0) (off := 0) Try.underlying49 rfl Try.sizeOf22 rfl rfl rfl) ?_
    refine wl_r (o_loadbg Try.isAgg22 rfl f (by rfl)) ?_
    refine wl_p (fun _ => o_len (t := 22) Try.underlying22 rfl) ?_
    refine wl_p (fun _ => o_move rfl) ?_
    refine wl_nil ?_
    refine rk_block ?_
    obtain ⟨hl1, hl2⟩ := hl
    refine rk_joinf (fun fb fr w3 => fr = [] ++ fb.drop 1 ∧ (∀ j (h : j < items.length), cmpL items[j].1 key < 0) ∧ Below w_1.heap.size w_1 w3) ?_ (fun ks hj => ?_)
    rotate_left
    · refine rk_loopf (fun fb m fr w3 => ∃ (i : Nat) (v : Int), fr = [(21, .int .i64 v)] ++ fb ∧ v = i ∧ i ≤ items.length ∧ m = items.length - i ∧ (∀ j (h : j < items.length), j < i → cmpL items[j].1 key < 0) ∧ Below w_1.heap.size w_1 w3) (n := items.length) (Fr.le_of (by kernel_rfl) (by kernel_rfl) (by repeat' constructor)) ⟨0, _, rfl, rfl, by omega, rfl, fun j _ h => absurd h (Nat.not_lt_zero _), Below.refl _ _⟩ ?_
      rintro m fr w3 ⟨i, v, rfl, rfl, hi, rfl, hok, hw1⟩
      first | refine rk_frame (by simp only [List.cons_append, List.nil_append, List.drop_succ_cons, List.drop_zero]; rfl) ?_ | refine wl_frame (by simp only [List.cons_append, List.nil_append, List.drop_succ_cons, List.drop_zero]; rfl) ?_
      have shw1 := hw1.size
      replace hw := hw.trans (hw1.mono hw.size)
      replace f2 := f2.u hw1
      replace f := f.u hw1
      refine rk_seq ?_
      refine rk_region ?_
      refine wl_p (fun _ => o_lt rfl rfl) ?_
      refine wl_nil ?_
      refine rk_seq ?_
      refine rk_if rfl (fun h22 => ?_) (fun h22 => ?_)
      · have hil : i < items.length := by omega
        have n1 := (hl2 _ (List.getElem_mem hil)).1
        refine rk_skip ?_
        refine rk_seq ?_
        refine rk_block ?_
        refine rk_seq ?_
        refine rk_region ?_
        refine wl_p (fun _ => o_move rfl) ?_
        refine wl_p (fun _ => (o_iaddrA (i) Try.underlying22 Try.sizeOf31 rfl rfl rfl (hI.some_ (by omega)) (by omega))) ?_
        refine wl_ldItem rfl hI hw (by omega) ?_
        rintro A125 c125 A225 c225 f25 f25_1 i25 i25_1
        refine wl_allocg [_, _] Try.zeroValue31 (by rfl) ?_
        rintro g8 w8 f8 b8 i8 i8_1
        have s8 := b8.size
        replace hw1 := hw1.trans (b8.mono hw1.size)
        replace hw := hw.trans (b8.mono hw.size)
        replace f := f.u b8
        replace f2 := f2.u b8
        refine wl_p (fun _ => o_assign rfl) ?_
        refine wl_storega Try.sizeOf31 rfl rfl (by rfl) (oneCell_of (by rfl)) f8 (by rfl) ?_
        rintro w_2 f_1 g_1 e_2
        have s_1 := g_1.size
        replace hw1 := hw1.trans (below_of_grownBy g_1.g hw1.size (by omega))
        replace hw := hw.trans (below_of_grownBy g_1.g hw.size (by omega))
        replace f2 := f2.k g_1.g (ap_some (by omega))
        replace f := f.k g_1.g (ap_some (by omega))
        clear f8
        refine wl_nil ?_
        refine rk_seq ?_
        refine rk_region ?_
        refine wl_p (fun _ => o_faddr (s := 31) (i := 0) (off := 0) Try.underlying31 rfl Try.sizeOf27 rfl rfl rfl) ?_
        refine wl_r (o_loadbg Try.isAgg27 rfl f_1 (by rfl)) ?_
        refine wl_p (fun _ => o_move rfl) ?_
        refine wl_call rfl (C_leafCompare _ (f25.u hw) (hC.u hw) rfl rfl (by omega) (by omega)) ?_
        rintro v29 w29 ⟨rfl, b29⟩
        have s29 := b29.size
        replace hw1 := hw1.trans (b29.mono hw1.size)
        replace hw := hw.trans (b29.mono hw.size)
        replace f := f.u b29
        replace f2 := f2.u b29
        replace f_1 := f_1.u b29
        refine wl_p (fun _ => o_assign rfl) ?_
        refine wl_nil ?_
        refine rk_seq ?_
        refine rk_region ?_
        refine wl_p (fun _ => o_move rfl) ?_
        refine wl_p (fun _ => o_ge rfl rfl) ?_
        refine wl_nil ?_
        refine rk_if rfl (fun h31 => ?_) (fun h31 => ?_)
        · refine rk_seq ?_
          refine rk_region ?_
          refine wl_p (fun _ => o_move rfl) ?_
          refine wl_p (fun _ => o_move rfl) ?_
          refine wl_p (fun _ => o_eq rfl rfl) ?_
          refine wl_p (fun _ => o_assign rfl) ?_
          refine wl_p (fun _ => o_assign rfl) ?_
          refine wl_nil ?_
          refine ret2 rfl rfl rfl ?_
          exact ⟨i, _, rfl, ⟨fun _ => ⟨by omega, fun j hj hji => hok j hj hji, fun h => ⟨by omega, by simp⟩, fun h => absurd h (by omega)⟩, fun h => absurd ⟨hW, hq⟩ h⟩, hw⟩
        · refine rk_skip ?_
          refine rk_blk ?_
          refine rk_region ?_
          refine wl_p (fun _ => o_add rfl rfl (by omega) (by omega)) ?_
          refine wl_p (fun _ => o_move rfl) ?_
          refine wl_nil ?_
          exact rk_againf (Fr.le_of (by kernel_rfl) (by kernel_rfl) (by repeat' constructor)) ⟨i + 1, (i : Int) + 1, rfl, by omega, by omega, rfl, fun j hj hji => by
            rcases Nat.lt_or_ge j i with h | h
            · exact hok j hj h
            · obtain rfl : j = i := by omega
              omega, hw1⟩ (by omega)
      · refine rk_exit rfl ?_
        exact rk_tof hj (Fr.le_of (by kernel_rfl) (by kernel_rfl) (by repeat' constructor)) ⟨rfl, fun j h => hok j h (by omega), hw1⟩
    rintro fr w3 ⟨rfl, hL1, hw1⟩
    first | refine rk_frame (by simp only [List.cons_append, List.nil_append, List.drop_succ_cons, List.drop_zero]; rfl) ?_ | refine wl_frame (by simp only [List.cons_append, List.nil_append, List.drop_succ_cons, List.drop_zero]; rfl) ?_
    have shw1 := hw1.size
    replace hw := hw.trans (hw1.mono hw.size)
    replace f2 := f2.u hw1
    replace f := f.u hw1
    refine rk_seq ?_
    refine rk_region ?_
    refine wl_p (fun _ => o_faddr (s := 49) (i := 0) (off := 0) Try.underlying49 rfl Try.sizeOf22 rfl rfl rfl) ?_
    refine wl_r (o_loadbg Try.isAgg22 rfl f (by rfl)) ?_
    refine wl_p (fun _ => o_len (t := 22) Try.underlying22 rfl) ?_
    refine wl_p (fun _ => o_assign rfl) ?_
    refine wl_p (fun _ => o_assign rfl) ?_
    refine wl_nil ?_
    refine ret2 rfl rfl rfl ?_
    exact ⟨items.length, _, rfl, ⟨fun _ => ⟨Nat.le_refl _, fun j hj _ => hL1 j hj, fun h => absurd h (by omega), fun _ => rfl⟩, fun h => absurd ⟨hW, hq⟩ h⟩, hw⟩
  · refine rk_skip ?_
    refine rk_seq ?_
    refine rk_seq ?_
    refine rk_region ?_
    refine wl_r (o_loadag Try.isAgg26 Try.sizeOf26 rfl f2 (by rfl)) ?_
    refine wl_call rfl (C_shapeOfB _ (by omega)) ?_
    rintro v14 w14 ⟨rfl, b14⟩
    have s14 := b14.size
    replace hw := hw.trans (b14.mono hw.size)
    replace f2 := f2.u b14
    refine wl_nil ?_
    refine rk_block ?_
    refine rk_seq ?_
    refine rk_region ?_
    refine wl_p (fun _ => (o_assertNo Try.underlying49 rfl (by simp) Try.zeroValue49)) ?_
    refine wl_p (fun _ => o_ext21 rfl) ?_
    refine wl_p (fun _ => o_ext20 rfl) ?_
    refine wl_nil ?_
    refine rk_false rfl ?_
    refine rk_skip ?_
    refine rk_blk ?_
    refine rk_seq ?_
    refine rk_region ?_
    refine wl_p (fun _ => o_assign rfl) ?_
    refine wl_p (fun _ => o_assign rfl) ?_
    refine wl_nil ?_
    refine ret2 rfl rfl rfl ?_
    exact ⟨0, false, rfl, ⟨fun h => absurd h.2 hq, fun _ => ⟨rfl, rfl⟩⟩, hw⟩

/-- What Kid answers. -/
def KidR (items : List (By × By)) (kids : List Int) (keys : List By) (key : By) (z : Int) : Prop :=
  (WholeN items kids keys ∧ kids.length ≠ 0 → ∃ k : Nat, z = k ∧ k ≤ keys.length ∧ (∀ j (h : j < keys.length), j < k → cmpL keys[j] key ≤ 0) ∧ (∀ h : k < keys.length, 0 < cmpL keys[k] key)) ∧ (¬(WholeN items kids keys ∧ kids.length ≠ 0) → z = -1)
theorem C_leafKid {A K B C : Option Addr} {items : List (By × By)} {kids : List Int} {keys : List By} {key : By} {n q m c e d g r : Nat} (w : World) (hI : RI w A items) (hZ : RZ w K kids) (hK : RKy w B keys) (hC : Rd w C key) (hn : n = items.length) (hq : q = kids.length) (hm : m = keys.length) (hg : g = key.length) (hl : LightI items) (hlz : kids.length ≤ 4000) (hlk : LightK keys) (hz : ∀ z ∈ kids, (Lit.int .i64 z).wf = true) (he : kids.length ≤ e) (hkl : key.length ≤ 4000000000) :
    CallsR Try.prog 8 [.agg #[.slice A n c, .slice K q e, .slice B m d], .slice C g r] w fun v w' => ∃ z, v = .int .i64 z ∧ KidR items kids keys key z ∧ Below w.heap.size w w' := by
  subst hn; subst hq; subst hm; subst hg
  unfold KidR
  refine callsR Try.func8 rfl rfl (by kernel_rfl) rfl ?_
  have hw := Below.refl w.heap.size w
  refine rk_seq ?_
  refine rk_region ?_
  refine wl_boxg [_, _, _] rfl (by rfl) ?_
  rintro g2 w2 f2 b2 i2 i2_1
  have s2 := b2.size
  replace hw := hw.trans (b2.mono hw.size)
  refine wl_p (fun _ => o_assign rfl) ?_
  refine wl_nil ?_
  refine rk_seq ?_
  refine rk_seq ?_
  refine rk_region ?_
  refine wl_r (o_loadag Try.isAgg26 Try.sizeOf26 rfl f2 (by rfl)) ?_
  refine wl_call rfl (C_leafCheck _ (hI.u hw) (hZ.u hw) (hK.u hw) rfl rfl rfl (by omega) (by omega) (by omega) (by omega) (by omega)) ?_
  rintro v9 w9 ⟨z9, ⟨rfl, ⟨i9, ⟨i9_1, b9⟩⟩⟩⟩
  have s9 := b9.size
  replace hw := hw.trans (b9.mono hw.size)
  replace f2 := f2.u b9
  refine wl_p (fun _ => o_ne rfl rfl) ?_
  refine wl_nil ?_
  refine rk_if rfl (fun h10 => ?_) (fun h10 => ?_)
  · refine rk_seq ?_
    refine rk_region ?_
    refine wl_p (fun _ => o_assign rfl) ?_
    refine wl_nil ?_
    refine ret1 rfl rfl ?_
    exact ⟨_, rfl, ⟨fun h => absurd (i9_1.2 h.1) h10, fun _ => rfl⟩, hw⟩
  have hW : WholeN items kids keys := i9_1.1 (by omega)
  by_cases hq : kids.length = 0
  · refine rk_skip ?_
    refine rk_seq ?_
    refine rk_seq ?_
    refine rk_region ?_
    refine wl_r (o_loadag Try.isAgg26 Try.sizeOf26 rfl f2 (by rfl)) ?_
    refine wl_call rfl (C_shapeOfL _ (by omega)) ?_
    rintro v12 w12 ⟨rfl, b12⟩
    have s12 := b12.size
    replace hw := hw.trans (b12.mono hw.size)
    replace f2 := f2.u b12
    refine wl_nil ?_
    refine rk_block ?_
    refine rk_seq ?_
    refine rk_region ?_
    refine wl_p (fun _ => (o_assertNo Try.underlying51 rfl (by simp) Try.zeroValue51)) ?_
    refine wl_p (fun _ => o_ext21 rfl) ?_
    refine wl_p (fun _ => o_ext20 rfl) ?_
    refine wl_nil ?_
    refine rk_false rfl ?_
    refine rk_skip ?_
    refine rk_blk ?_
    refine rk_seq ?_
    refine rk_region ?_
    refine wl_p (fun _ => o_assign rfl) ?_
    refine wl_nil ?_
    refine ret1 rfl rfl ?_
    exact ⟨_, rfl, ⟨fun h => absurd hq h.2, fun _ => rfl⟩, hw⟩
  · refine rk_skip ?_
    refine rk_seq ?_
    refine rk_seq ?_
    refine rk_region ?_
    refine wl_r (o_loadag Try.isAgg26 Try.sizeOf26 rfl f2 (by rfl)) ?_
    refine wl_call rfl (C_shapeOfB _ (by omega)) ?_
    rintro v12 w12 ⟨rfl, b12⟩
    have s12 := b12.size
    replace hw := hw.trans (b12.mono hw.size)
    replace f2 := f2.u b12
    refine wl_nil ?_
    refine rk_block ?_
    refine rk_seq ?_
    refine rk_region ?_
    refine wl_p (fun _ => (o_assertYes Try.underlying51 rfl)) ?_
    refine wl_p (fun _ => o_ext21 rfl) ?_
    refine wl_p (fun _ => o_ext20 rfl) ?_
    refine wl_nil ?_
    refine rk_true rfl ?_
    refine rk_seq ?_
    refine rk_region ?_
    refine wl_allocg [_, _, _] Try.zeroValue51 (by rfl) ?_
    rintro g5 w5 f5 b5 i5 i5_1
    have s5 := b5.size
    replace hw := hw.trans (b5.mono hw.size)
    replace f2 := f2.u b5
    refine wl_storega Try.sizeOf51 rfl rfl (by rfl) (oneCell_of (by rfl)) f5 (by rfl) ?_
    rintro w_1 f g e_1
    have s := g.size
    replace hw := hw.trans (below_of_grownBy g.g hw.size (by omega))
    replace f2 := f2.k g.g (ap_some (by omega))
    clear f5
    refine wl_nil ?_
    refine rk_seq ?_
    refine rk_seq ?_
    refine rk_region ?_
    refine wl_p (fun _ => o_faddr (s := 51) (i := 2) (off := 2) Try.underlying51 rfl Try.sizeOf24 rfl rfl rfl) ?_
    refine wl_r (o_loadbg Try.isAgg24 rfl f (by rfl)) ?_
    refine wl_p (fun _ => o_len (t := 24) Try.underlying24 rfl) ?_
    refine wl_p (fun _ => o_move rfl) ?_
    refine wl_nil ?_
    refine rk_block ?_
    obtain ⟨hl1, hl2⟩ := hlk
    refine rk_joinf (fun fb fr w3 => fr = [] ++ fb.drop 1 ∧ (∀ j (h : j < keys.length), cmpL keys[j] key ≤ 0) ∧ Below w_1.heap.size w_1 w3) ?_ (fun ks hj => ?_)
    rotate_left
    · refine rk_loopf (fun fb m fr w3 => ∃ (i : Nat) (v : Int), fr = [(19, .int .i64 v)] ++ fb ∧ v = i ∧ i ≤ keys.length ∧ m = keys.length - i ∧ (∀ j (h : j < keys.length), j < i → cmpL keys[j] key ≤ 0) ∧ Below w_1.heap.size w_1 w3) (n := keys.length) (Fr.le_of (by kernel_rfl) (by kernel_rfl) (by repeat' constructor)) ⟨0, _, rfl, rfl, by omega, rfl, fun j _ h => absurd h (Nat.not_lt_zero _), Below.refl _ _⟩ ?_
      rintro m fr w3 ⟨i, v, rfl, rfl, hi, rfl, hok, hw1⟩
      first | refine rk_frame (by simp only [List.cons_append, List.nil_append, List.drop_succ_cons, List.drop_zero]; rfl) ?_ | refine wl_frame (by simp only [List.cons_append, List.nil_append, List.drop_succ_cons, List.drop_zero]; rfl) ?_
      have shw1 := hw1.size
      replace hw := hw.trans (hw1.mono hw.size)
      replace f2 := f2.u hw1
      replace f := f.u hw1
      refine rk_seq ?_
      refine rk_region ?_
      refine wl_p (fun _ => o_lt rfl rfl) ?_
      refine wl_nil ?_
      refine rk_seq ?_
      refine rk_if rfl (fun h20 => ?_) (fun h20 => ?_)
      · have hil : i < keys.length := by omega
        have n1 := hl2 _ (List.getElem_mem hil)
        refine rk_skip ?_
        refine rk_seq ?_
        refine rk_block ?_
        refine rk_seq ?_
        refine rk_region ?_
        refine wl_p (fun _ => o_move rfl) ?_
        refine wl_p (fun _ => (o_iaddrA1 (i) Try.underlying24 Try.sizeOf27 rfl rfl rfl (hK.some_ (by omega)) (by omega))) ?_
        refine wl_ldKy rfl hK hw (by omega) ?_
        rintro A123 c123 f23 i23
        refine wl_p (fun _ => o_assign rfl) ?_
        refine wl_p (fun _ => o_assign rfl) ?_
        refine wl_nil ?_
        refine rk_seq ?_
        refine rk_region ?_
        refine wl_p (fun _ => o_move rfl) ?_
        refine wl_p (fun _ => o_move rfl) ?_
        refine wl_call rfl (C_leafCompare _ (f23.u hw) (hC.u hw) rfl rfl (by omega) (by omega)) ?_
        rintro v26 w26 ⟨rfl, b26⟩
        have s26 := b26.size
        replace hw1 := hw1.trans (b26.mono hw1.size)
        replace hw := hw.trans (b26.mono hw.size)
        replace f := f.u b26
        replace f2 := f2.u b26
        refine wl_p (fun _ => o_gt rfl rfl) ?_
        refine wl_nil ?_
        refine rk_if rfl (fun h27 => ?_) (fun h27 => ?_)
        · refine rk_seq ?_
          refine rk_region ?_
          refine wl_p (fun _ => o_move rfl) ?_
          refine wl_p (fun _ => o_assign rfl) ?_
          refine wl_nil ?_
          refine ret1 rfl rfl ?_
          exact ⟨_, rfl, ⟨fun _ => ⟨i, rfl, by omega, fun j hj hji => hok j hj hji, fun h => by omega⟩, fun h => absurd ⟨hW, hq⟩ h⟩, hw⟩
        · refine rk_skip ?_
          refine rk_blk ?_
          refine rk_region ?_
          refine wl_p (fun _ => o_add rfl rfl (by omega) (by omega)) ?_
          refine wl_p (fun _ => o_move rfl) ?_
          refine wl_nil ?_
          exact rk_againf (Fr.le_of (by kernel_rfl) (by kernel_rfl) (by repeat' constructor)) ⟨i + 1, (i : Int) + 1, rfl, by omega, by omega, rfl, fun j hj hji => by
            rcases Nat.lt_or_ge j i with h | h
            · exact hok j hj h
            · obtain rfl : j = i := by omega
              omega, hw1⟩ (by omega)
      · refine rk_exit rfl ?_
        exact rk_tof hj (Fr.le_of (by kernel_rfl) (by kernel_rfl) (by repeat' constructor)) ⟨rfl, fun j h => hok j h (by omega), hw1⟩
    rintro fr w3 ⟨rfl, hL1, hw1⟩
    first | refine rk_frame (by simp only [List.cons_append, List.nil_append, List.drop_succ_cons, List.drop_zero]; rfl) ?_ | refine wl_frame (by simp only [List.cons_append, List.nil_append, List.drop_succ_cons, List.drop_zero]; rfl) ?_
    have shw1 := hw1.size
    replace hw := hw.trans (hw1.mono hw.size)
    replace f2 := f2.u hw1
    replace f := f.u hw1
    refine rk_seq ?_
    refine rk_region ?_
    refine wl_p (fun _ => o_faddr (s := 51) (i := 2) (off := 2) Try.underlying51 rfl Try.sizeOf24 rfl rfl rfl) ?_
    refine wl_r (o_loadbg Try.isAgg24 rfl f (by rfl)) ?_
    refine wl_p (fun _ => o_len (t := 24) Try.underlying24 rfl) ?_
    refine wl_p (fun _ => o_assign rfl) ?_
    refine wl_nil ?_
    refine ret1 rfl rfl ?_
    exact ⟨_, rfl, ⟨fun _ => ⟨keys.length, rfl, Nat.le_refl _, fun j hj _ => hL1 j hj, fun h => absurd h (by omega)⟩, fun h => absurd ⟨hW, hq⟩ h⟩, hw⟩
end Go.Proofs.Ytchcpnfafgiifaa
