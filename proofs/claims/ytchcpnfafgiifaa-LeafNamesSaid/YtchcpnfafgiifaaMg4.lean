/-
  Walks of package leaf: what is valid, and where a key is found.
-/
import Derived.Test.YtchcpnfafgiifaaMg3
import Derived.Lib.SlBytesConst
import Derived.Lib.AppendStr
namespace Go.Proofs.Ytchcpnfafgiifaa
open Go.RowKit

theorem C_shapeOfB {A K B : Option Addr} {n q m c e d : Nat} (w : World) (hq : 0 < q) :
    CallsR Try.prog 17 [.agg #[.slice A n c, .slice K q e, .slice B m d]] w fun v w' => v = .iface 51 (.agg #[.slice A n c, .slice K q e, .slice B m d]) ∧ Below w.heap.size w w' := by
  have h := C_shapeOf (A := A) (K := K) (B := B) (n := n) (q := q) (m := m) (c := c) (e := e) (d := d) w
  rwa [if_neg (by omega)] at h
theorem C_shapeOfL {A K B : Option Addr} {n q m c e d : Nat} (w : World) (hq : q = 0) :
    CallsR Try.prog 17 [.agg #[.slice A n c, .slice K q e, .slice B m d]] w fun v w' => v = .iface 49 (.agg #[.slice A n c, .slice B m d]) ∧ Below w.heap.size w w' := by
  have h := C_shapeOf (A := A) (K := K) (B := B) (n := n) (q := q) (m := m) (c := c) (e := e) (d := d) w
  rwa [if_pos hq] at h

/-- A node is valid. -/
def WholeN (items : List (By × By)) (kids : List Int) (keys : List By) : Prop := if kids.length = 0 then WholeL items keys else WholeB items kids keys
theorem C_leafCheck {A K B : Option Addr} {items : List (By × By)} {kids : List Int} {keys : List By} {n q m c e d : Nat} (w : World) (hI : RI w A items) (hZ : RZ w K kids) (hK : RKy w B keys) (hn : n = items.length) (hq : q = kids.length) (hm : m = keys.length) (hl : LightI items) (hlz : kids.length ≤ 4000) (hlk : LightK keys) (hz : ∀ z ∈ kids, (Lit.int .i64 z).wf = true) (he : kids.length ≤ e) :
    CallsR Try.prog 9 [.agg #[.slice A n c, .slice K q e, .slice B m d]] w fun v w' => ∃ z, v = .int .i64 z ∧ (z = 0 ∨ z = 2) ∧ (z = 0 ↔ WholeN items kids keys) ∧ Below w.heap.size w w' := by
  subst hn; subst hq; subst hm
  refine callsR Try.func9 rfl rfl (by kernel_rfl) rfl ?_
  have hw := Below.refl w.heap.size w
  unfold WholeN
  by_cases hq : kids.length = 0
  · rw [if_pos hq]
    refine rk_seq ?_
    refine rk_region ?_
    refine wl_boxg [_, _, _] rfl (by rfl) ?_
    rintro g1 w1 f1 b1 i1 i1_1
    have s1 := b1.size
    replace hw := hw.trans (b1.mono hw.size)
    refine wl_p (fun _ => o_assign rfl) ?_
    refine wl_nil ?_
    refine rk_seq ?_
    refine rk_seq ?_
    refine rk_region ?_
    refine wl_r (o_loadag Try.isAgg26 Try.sizeOf26 rfl f1 (by rfl)) ?_
    refine wl_call rfl (C_shapeOfL _ hq) ?_
    rintro v4 w4 ⟨rfl, b4⟩
    have s4 := b4.size
    replace hw := hw.trans (b4.mono hw.size)
    replace f1 := f1.u b4
    refine wl_invoke rfl rfl (fun _ => by kernel_rfl) (C_wholeLeaf _ (hI.u hw) (hK.u hw) rfl rfl (by omega) (by omega)) ?_
    rintro v5 w5 ⟨b5, ⟨rfl, ⟨i5, b5_1⟩⟩⟩
    have s5 := b5_1.size
    replace hw := hw.trans (b5_1.mono hw.size)
    replace f1 := f1.u b5_1
    refine wl_p (fun _ => o_not rfl) ?_
    refine wl_nil ?_
    refine rk_cond rfl (fun h6 => ?_) (fun h6 => ?_) <;> try simp only [decide_eq_true_eq, decide_eq_false_iff_not, Bool.not_eq_true', Bool.not_eq_false', Bool.and_eq_true, Bool.and_eq_false_iff, Bool.or_eq_true, Bool.or_eq_false_iff] at h6
    · refine rk_seq ?_
      refine rk_region ?_
      refine wl_p (fun _ => o_assign rfl) ?_
      refine wl_nil ?_
      refine ret1 rfl rfl ?_
      exact ⟨_, rfl, .inr rfl, ⟨fun h => (by cases h), fun h => absurd (i5.2 h) (by simp [h6])⟩, hw⟩
    · refine rk_skip ?_
      refine rk_seq ?_
      refine rk_region ?_
      refine wl_p (fun _ => o_assign rfl) ?_
      refine wl_nil ?_
      refine ret1 rfl rfl ?_
      exact ⟨_, rfl, .inl rfl, ⟨fun _ => i5.1 h6, fun _ => rfl⟩, hw⟩
  · rw [if_neg hq]
    refine rk_seq ?_
    refine rk_region ?_
    refine wl_boxg [_, _, _] rfl (by rfl) ?_
    rintro g1 w1 f1 b1 i1 i1_1
    have s1 := b1.size
    replace hw := hw.trans (b1.mono hw.size)
    refine wl_p (fun _ => o_assign rfl) ?_
    refine wl_nil ?_
    refine rk_seq ?_
    refine rk_seq ?_
    refine rk_region ?_
    refine wl_r (o_loadag Try.isAgg26 Try.sizeOf26 rfl f1 (by rfl)) ?_
    refine wl_call rfl (C_shapeOfB _ (by omega)) ?_
    rintro v4 w4 ⟨rfl, b4⟩
    have s4 := b4.size
    replace hw := hw.trans (b4.mono hw.size)
    replace f1 := f1.u b4
    refine wl_invoke rfl rfl (fun _ => by kernel_rfl) (C_wholeBranch _ (hI.u hw) (hZ.u hw) (hK.u hw) rfl rfl rfl (by omega) (by omega) (by omega) (by omega) (by omega)) ?_
    rintro v5 w5 ⟨b5, ⟨rfl, ⟨i5, b5_1⟩⟩⟩
    have s5 := b5_1.size
    replace hw := hw.trans (b5_1.mono hw.size)
    replace f1 := f1.u b5_1
    refine wl_p (fun _ => o_not rfl) ?_
    refine wl_nil ?_
    refine rk_cond rfl (fun h6 => ?_) (fun h6 => ?_) <;> try simp only [decide_eq_true_eq, decide_eq_false_iff_not, Bool.not_eq_true', Bool.not_eq_false', Bool.and_eq_true, Bool.and_eq_false_iff, Bool.or_eq_true, Bool.or_eq_false_iff] at h6
    · refine rk_seq ?_
      refine rk_region ?_
      refine wl_p (fun _ => o_assign rfl) ?_
      refine wl_nil ?_
      refine ret1 rfl rfl ?_
      exact ⟨_, rfl, .inr rfl, ⟨fun h => (by cases h), fun h => absurd (i5.2 h) (by simp [h6])⟩, hw⟩
    · refine rk_skip ?_
      refine rk_seq ?_
      refine rk_region ?_
      refine wl_p (fun _ => o_assign rfl) ?_
      refine wl_nil ?_
      refine ret1 rfl rfl ?_
      exact ⟨_, rfl, .inl rfl, ⟨fun _ => i5.1 h6, fun _ => rfl⟩, hw⟩

theorem C_leafLeaf {A K B : Option Addr} {n q m c e d : Nat} (w : World) :
    CallsR Try.prog 11 [.agg #[.slice A n c, .slice K q e, .slice B m d]] w fun v w' => v = .bool (decide (q = 0)) ∧ Below w.heap.size w w' := by
  refine callsR Try.func11 rfl rfl (by kernel_rfl) rfl ?_
  have hw := Below.refl w.heap.size w
  refine rk_seq ?_
  refine rk_region ?_
  refine wl_boxg [_, _, _] rfl (by rfl) ?_
  rintro g1 w1 f1 b1 i1 i1_1
  have s1 := b1.size
  replace hw := hw.trans (b1.mono hw.size)
  refine wl_p (fun _ => o_assign rfl) ?_
  refine wl_nil ?_
  refine rk_seq ?_
  refine rk_region ?_
  refine wl_p (fun _ => o_faddr (s := 26) (i := 1) (off := 1) Try.underlying26 rfl Try.sizeOf23 rfl rfl rfl) ?_
  refine wl_r (o_loadbg Try.isAgg23 rfl f1 (by rfl)) ?_
  refine wl_p (fun _ => o_len (t := 23) Try.underlying23 rfl) ?_
  refine wl_p (fun _ => o_eq rfl rfl) ?_
  refine wl_p (fun _ => o_assign rfl) ?_
  refine wl_nil ?_
  refine ret1 rfl rfl ?_
  exact ⟨by congr 1; exact decide_eq_decide.2 (by omega), hw⟩

/-- Light nodes, as the statements guard them. -/
def LightN (items : List (By × By)) (kids : List Int) (keys : List By) : Prop := items.length ≤ 40 ∧ kids.length ≤ 40 ∧ keys.length ≤ 40 ∧ (∀ x ∈ items, x.1.length ≤ 200 ∧ x.2.length ≤ 200) ∧ ∀ x ∈ keys, x.length ≤ 200
theorem C_LightNode {A K B : Option Addr} {items : List (By × By)} {kids : List Int} {keys : List By} {n q m c e d : Nat} (w : World) (hI : RI w A items) (hK : RKy w B keys) (hn : n = items.length) (hq : q = kids.length) (hm : m = keys.length) :
    CallsR Try.prog 6 [.agg #[.slice A n c, .slice K q e, .slice B m d]] w fun v w' => ∃ b, v = .bool b ∧ (b = true ↔ LightN items kids keys) ∧ Below w.heap.size w w' := by
  subst hn; subst hq; subst hm
  refine callsR Try.func6 rfl rfl (by kernel_rfl) rfl ?_
  have hw := Below.refl w.heap.size w
  refine rk_seq ?_
  refine rk_region ?_
  refine wl_boxg [_, _, _] rfl (by rfl) ?_
  rintro g1 w1 f1 b1 i1 i1_1
  have s1 := b1.size
  replace hw := hw.trans (b1.mono hw.size)
  refine wl_p (fun _ => o_assign rfl) ?_
  refine wl_nil ?_
  refine rk_seq ?_
  refine rk_seq ?_
  refine rk_region ?_
  refine wl_p (fun _ => o_faddr (s := 26) (i := 0) (off := 0) Try.underlying26 rfl Try.sizeOf22 rfl rfl rfl) ?_
  refine wl_r (o_loadbg Try.isAgg22 rfl f1 (by rfl)) ?_
  refine wl_p (fun _ => o_len (t := 22) Try.underlying22 rfl) ?_
  refine wl_p (fun _ => o_gt rfl rfl) ?_
  refine wl_p (fun _ => o_move rfl) ?_
  refine wl_bool 9 rfl (fun h9 => ?_) (fun h9 => ?_) <;> try simp only [decide_eq_true_eq, decide_eq_false_iff_not, Bool.not_eq_true', Bool.not_eq_false', Bool.and_eq_true, Bool.and_eq_false_iff, Bool.or_eq_true, Bool.or_eq_false_iff] at h9
  · refine wl_off ?_
    refine wl_off ?_
    refine wl_off ?_
    refine wl_off ?_
    refine wl_p (fun _ => o_pick_t rfl rfl) ?_
    refine wl_p (fun _ => o_move rfl) ?_
    refine wl_off ?_
    refine wl_off ?_
    refine wl_off ?_
    refine wl_off ?_
    refine wl_p (fun _ => o_pick_t rfl rfl) ?_
    refine wl_nil ?_
    refine rk_true rfl ?_
    refine rk_seq ?_
    refine rk_region ?_
    refine wl_p (fun _ => o_assign rfl) ?_
    refine wl_nil ?_
    refine ret1 rfl rfl ?_
    exact ⟨_, rfl, ⟨fun h => (by cases h), fun h => absurd h.1 (by omega)⟩, hw⟩
  refine wl_p (fun _ => o_faddr (s := 26) (i := 1) (off := 1) Try.underlying26 rfl Try.sizeOf23 rfl rfl rfl) ?_
  refine wl_r (o_loadbg Try.isAgg23 rfl f1 (by rfl)) ?_
  refine wl_p (fun _ => o_len (t := 23) Try.underlying23 rfl) ?_
  refine wl_p (fun _ => o_gt rfl rfl) ?_
  refine wl_p (fun _ => o_pick_f rfl rfl) ?_
  refine wl_p (fun _ => o_move rfl) ?_
  refine wl_bool 15 rfl (fun h15 => ?_) (fun h15 => ?_) <;> try simp only [decide_eq_true_eq, decide_eq_false_iff_not, Bool.not_eq_true', Bool.not_eq_false', Bool.and_eq_true, Bool.and_eq_false_iff, Bool.or_eq_true, Bool.or_eq_false_iff] at h15
  · refine wl_off ?_
    refine wl_off ?_
    refine wl_off ?_
    refine wl_off ?_
    refine wl_p (fun _ => o_pick_t rfl rfl) ?_
    refine wl_nil ?_
    refine rk_true rfl ?_
    refine rk_seq ?_
    refine rk_region ?_
    refine wl_p (fun _ => o_assign rfl) ?_
    refine wl_nil ?_
    refine ret1 rfl rfl ?_
    exact ⟨_, rfl, ⟨fun h => (by cases h), fun h => absurd h.2.1 (by omega)⟩, hw⟩
  refine wl_p (fun _ => o_faddr (s := 26) (i := 2) (off := 2) Try.underlying26 rfl Try.sizeOf24 rfl rfl rfl) ?_
  refine wl_r (o_loadbg Try.isAgg24 rfl f1 (by rfl)) ?_
  refine wl_p (fun _ => o_len (t := 24) Try.underlying24 rfl) ?_
  refine wl_p (fun _ => o_gt rfl rfl) ?_
  refine wl_p (fun _ => o_pick_f rfl rfl) ?_
  refine wl_nil ?_
  refine rk_if rfl (fun h20 => ?_) (fun h20 => ?_)
  · refine rk_seq ?_
    refine rk_region ?_
    refine wl_p (fun _ => o_assign rfl) ?_
    refine wl_nil ?_
    refine ret1 rfl rfl ?_
    exact ⟨_, rfl, ⟨fun h => (by cases h), fun h => absurd h.2.2.1 (by omega)⟩, hw⟩
  refine rk_skip ?_
  refine rk_seq ?_
  refine rk_seq ?_
  refine rk_region ?_
  refine wl_p (fun _ => o_assign rfl) ?_
  refine wl_nil ?_
  refine rk_block ?_
  refine rk_joinf (fun fb fr w2 => fr = [] ++ fb.drop 1 ∧ (∀ i (h : i < items.length), items[i].1.length ≤ 200 ∧ items[i].2.length ≤ 200) ∧ Below w1.heap.size w1 w2) ?_ (fun ks hj => ?_)
  rotate_left
  · refine rk_loopf (fun fb m fr w2 => ∃ (i : Nat) (v : Int), fr = [(3, .int .i64 v)] ++ fb ∧ v = i ∧ i ≤ items.length ∧ m = items.length - i ∧ (∀ j (h : j < items.length), j < i → items[j].1.length ≤ 200 ∧ items[j].2.length ≤ 200) ∧ Below w1.heap.size w1 w2) (n := items.length) (Fr.le_of (by kernel_rfl) (by kernel_rfl) (by repeat' constructor)) ⟨0, _, rfl, rfl, by omega, rfl, fun j _ h => absurd h (Nat.not_lt_zero _), Below.refl _ _⟩ ?_
    rintro m fr w2 ⟨i, v, rfl, rfl, hi, rfl, hok, hw1⟩
    first | refine rk_frame (by simp only [List.cons_append, List.nil_append, List.drop_succ_cons, List.drop_zero]; rfl) ?_ | refine wl_frame (by simp only [List.cons_append, List.nil_append, List.drop_succ_cons, List.drop_zero]; rfl) ?_
    have shw1 := hw1.size
    replace hw := hw.trans (hw1.mono hw.size)
    replace f1 := f1.u hw1
    refine rk_seq ?_
    refine rk_seq ?_
    refine rk_region ?_
    refine wl_p (fun _ => o_move rfl) ?_
    refine wl_p (fun _ => o_faddr (s := 26) (i := 0) (off := 0) Try.underlying26 rfl Try.sizeOf22 rfl rfl rfl) ?_
    refine wl_r (o_loadbg Try.isAgg22 rfl f1 (by rfl)) ?_
    refine wl_p (fun _ => o_len (t := 22) Try.underlying22 rfl) ?_
    refine wl_p (fun _ => o_lt rfl rfl) ?_
    refine wl_nil ?_
    refine rk_if rfl (fun h25 => ?_) (fun h25 => ?_)
    · have hil : i < items.length := by omega
      refine rk_skip ?_
      refine rk_seq ?_
      refine rk_block ?_
      refine rk_seq ?_
      refine rk_region ?_
      refine wl_p (fun _ => o_faddr (s := 26) (i := 0) (off := 0) Try.underlying26 rfl Try.sizeOf22 rfl rfl rfl) ?_
      refine wl_r (o_loadbg Try.isAgg22 rfl f1 (by rfl)) ?_
      refine wl_p (fun _ => o_move rfl) ?_
      refine wl_p (fun _ => (o_iaddrA (i) Try.underlying22 Try.sizeOf31 rfl rfl rfl (hI.some_ (by omega)) (by omega))) ?_
      refine wl_p (fun _ => (o_faddrR rfl Try.underlying31 (by rfl) Try.sizeOf27 (by rfl) (by rfl))) ?_
      refine wl_ldKey rfl hI hw (by omega) ?_
      rintro A133 c133 f33 i33
      refine wl_p (fun _ => o_len (t := 27) Try.underlying27 rfl) ?_
      refine wl_p (fun _ => o_gt rfl rfl) ?_
      refine wl_p (fun _ => o_move rfl) ?_
      refine wl_bool 36 rfl (fun h36 => ?_) (fun h36 => ?_) <;> try simp only [decide_eq_true_eq, decide_eq_false_iff_not, Bool.not_eq_true', Bool.not_eq_false', Bool.and_eq_true, Bool.and_eq_false_iff, Bool.or_eq_true, Bool.or_eq_false_iff] at h36
      · refine wl_off ?_
        refine wl_off ?_
        refine wl_off ?_
        refine wl_off ?_
        refine wl_off ?_
        refine wl_off ?_
        refine wl_off ?_
        refine wl_off ?_
        refine wl_p (fun _ => o_pick_t rfl rfl) ?_
        refine wl_nil ?_
        refine rk_true rfl ?_
        refine rk_seq ?_
        refine rk_region ?_
        refine wl_p (fun _ => o_assign rfl) ?_
        refine wl_nil ?_
        refine ret1 rfl rfl ?_
        exact ⟨_, rfl, ⟨fun h => (by cases h), fun h => by have := (h.2.2.2.1 _ (List.getElem_mem hil)).1; omega⟩, hw⟩
      refine wl_p (fun _ => o_faddr (s := 26) (i := 0) (off := 0) Try.underlying26 rfl Try.sizeOf22 rfl rfl rfl) ?_
      refine wl_r (o_loadbg Try.isAgg22 rfl f1 (by rfl)) ?_
      refine wl_p (fun _ => o_move rfl) ?_
      refine wl_p (fun _ => (o_iaddrA (i) Try.underlying22 Try.sizeOf31 rfl rfl rfl (hI.some_ (by omega)) (by omega))) ?_
      refine wl_p (fun _ => (o_faddrR rfl Try.underlying31 (by rfl) Try.sizeOf27 (by rfl) (by rfl))) ?_
      refine wl_ldVal rfl hI hw (by omega) ?_
      rintro A142 c142 f42 i42
      refine wl_p (fun _ => o_len (t := 27) Try.underlying27 rfl) ?_
      refine wl_p (fun _ => o_gt rfl rfl) ?_
      refine wl_p (fun _ => o_pick_f rfl rfl) ?_
      refine wl_nil ?_
      refine rk_if rfl (fun h45 => ?_) (fun h45 => ?_)
      · refine rk_seq ?_
        refine rk_region ?_
        refine wl_p (fun _ => o_assign rfl) ?_
        refine wl_nil ?_
        refine ret1 rfl rfl ?_
        exact ⟨_, rfl, ⟨fun h => (by cases h), fun h => by have := (h.2.2.2.1 _ (List.getElem_mem hil)).2; omega⟩, hw⟩
      refine rk_skip ?_
      refine rk_blk ?_
      refine rk_region ?_
      refine wl_p (fun _ => o_move rfl) ?_
      refine wl_p (fun _ => o_add rfl rfl (by omega) (by omega)) ?_
      refine wl_p (fun _ => o_assign rfl) ?_
      refine wl_nil ?_
      exact rk_againf (Fr.le_of (by kernel_rfl) (by kernel_rfl) (by repeat' constructor)) ⟨i + 1, (i : Int) + 1, rfl, by omega, by omega, rfl, fun j hj hji => by
        rcases Nat.lt_or_ge j i with h | h
        · exact hok j hj h
        · obtain rfl : j = i := by omega
          exact ⟨by omega, by omega⟩, hw1⟩ (by omega)
    · refine rk_exit rfl ?_
      exact rk_tof hj (Fr.le_of (by kernel_rfl) (by kernel_rfl) (by repeat' constructor)) ⟨rfl, fun j h => hok j h (by omega), hw1⟩
  rintro fr w2 ⟨rfl, hL1, hw1⟩
  first | refine rk_frame (by simp only [List.cons_append, List.nil_append, List.drop_succ_cons, List.drop_zero]; rfl) ?_ | refine wl_frame (by simp only [List.cons_append, List.nil_append, List.drop_succ_cons, List.drop_zero]; rfl) ?_
  have shw1 := hw1.size
  replace hw := hw.trans (hw1.mono hw.size)
  replace f1 := f1.u hw1
  refine rk_seq ?_
  refine rk_seq ?_
  refine rk_region ?_
  refine wl_p (fun _ => o_assign rfl) ?_
  refine wl_nil ?_
  refine rk_block ?_
  refine rk_joinf (fun fb fr w3 => fr = [] ++ fb.drop 1 ∧ (∀ i (h : i < keys.length), keys[i].length ≤ 200) ∧ Below w2.heap.size w2 w3) ?_ (fun ks hj => ?_)
  rotate_left
  · refine rk_loopf (fun fb m fr w3 => ∃ (i : Nat) (v : Int), fr = [(4, .int .i64 v)] ++ fb ∧ v = i ∧ i ≤ keys.length ∧ m = keys.length - i ∧ (∀ j (h : j < keys.length), j < i → keys[j].length ≤ 200) ∧ Below w2.heap.size w2 w3) (n := keys.length) (Fr.le_of (by kernel_rfl) (by kernel_rfl) (by repeat' constructor)) ⟨0, _, rfl, rfl, by omega, rfl, fun j _ h => absurd h (Nat.not_lt_zero _), Below.refl _ _⟩ ?_
    rintro m fr w3 ⟨i, v, rfl, rfl, hi, rfl, hok, hw2⟩
    first | refine rk_frame (by simp only [List.cons_append, List.nil_append, List.drop_succ_cons, List.drop_zero]; rfl) ?_ | refine wl_frame (by simp only [List.cons_append, List.nil_append, List.drop_succ_cons, List.drop_zero]; rfl) ?_
    have shw2 := hw2.size
    replace hw1 := hw1.trans (hw2.mono hw1.size)
    replace hw := hw.trans (hw2.mono hw.size)
    replace f1 := f1.u hw2
    refine rk_seq ?_
    refine rk_seq ?_
    refine rk_region ?_
    refine wl_p (fun _ => o_move rfl) ?_
    refine wl_p (fun _ => o_faddr (s := 26) (i := 2) (off := 2) Try.underlying26 rfl Try.sizeOf24 rfl rfl rfl) ?_
    refine wl_r (o_loadbg Try.isAgg24 rfl f1 (by rfl)) ?_
    refine wl_p (fun _ => o_len (t := 24) Try.underlying24 rfl) ?_
    refine wl_p (fun _ => o_lt rfl rfl) ?_
    refine wl_nil ?_
    refine rk_if rfl (fun h50 => ?_) (fun h50 => ?_)
    · have hil : i < keys.length := by omega
      refine rk_skip ?_
      refine rk_seq ?_
      refine rk_block ?_
      refine rk_seq ?_
      refine rk_region ?_
      refine wl_p (fun _ => o_faddr (s := 26) (i := 2) (off := 2) Try.underlying26 rfl Try.sizeOf24 rfl rfl rfl) ?_
      refine wl_r (o_loadbg Try.isAgg24 rfl f1 (by rfl)) ?_
      refine wl_p (fun _ => o_move rfl) ?_
      refine wl_p (fun _ => (o_iaddrA1 (i) Try.underlying24 Try.sizeOf27 rfl rfl rfl (hK.some_ (by omega)) (by omega))) ?_
      refine wl_ldKy rfl hK hw (by omega) ?_
      rintro A157 c157 f57 i57
      refine wl_p (fun _ => o_len (t := 27) Try.underlying27 rfl) ?_
      refine wl_p (fun _ => o_gt rfl rfl) ?_
      refine wl_nil ?_
      refine rk_if rfl (fun h59 => ?_) (fun h59 => ?_)
      · refine rk_seq ?_
        refine rk_region ?_
        refine wl_p (fun _ => o_assign rfl) ?_
        refine wl_nil ?_
        refine ret1 rfl rfl ?_
        exact ⟨_, rfl, ⟨fun h => (by cases h), fun h => by have := h.2.2.2.2 _ (List.getElem_mem hil); omega⟩, hw⟩
      refine rk_skip ?_
      refine rk_blk ?_
      refine rk_region ?_
      refine wl_p (fun _ => o_move rfl) ?_
      refine wl_p (fun _ => o_add rfl rfl (by omega) (by omega)) ?_
      refine wl_p (fun _ => o_assign rfl) ?_
      refine wl_nil ?_
      exact rk_againf (Fr.le_of (by kernel_rfl) (by kernel_rfl) (by repeat' constructor)) ⟨i + 1, (i : Int) + 1, rfl, by omega, by omega, rfl, fun j hj hji => by
        rcases Nat.lt_or_ge j i with h | h
        · exact hok j hj h
        · obtain rfl : j = i := by omega
          omega, hw2⟩ (by omega)
    · refine rk_exit rfl ?_
      exact rk_tof hj (Fr.le_of (by kernel_rfl) (by kernel_rfl) (by repeat' constructor)) ⟨rfl, fun j h => hok j h (by omega), hw2⟩
  rintro fr w3 ⟨rfl, hL2, hw2⟩
  first | refine rk_frame (by simp only [List.cons_append, List.nil_append, List.drop_succ_cons, List.drop_zero]; rfl) ?_ | refine wl_frame (by simp only [List.cons_append, List.nil_append, List.drop_succ_cons, List.drop_zero]; rfl) ?_
  have shw2 := hw2.size
  replace hw1 := hw1.trans (hw2.mono hw1.size)
  replace hw := hw.trans (hw2.mono hw.size)
  replace f1 := f1.u hw2
  refine rk_seq ?_
  refine rk_region ?_
  refine wl_p (fun _ => o_assign rfl) ?_
  refine wl_nil ?_
  refine ret1 rfl rfl ?_
  exact ⟨_, rfl, ⟨fun _ => ⟨by omega, by omega, by omega, fun x hx => by obtain ⟨i, h, rfl⟩ := List.getElem_of_mem hx; exact hL1 i h, fun x hx => by obtain ⟨i, h, rfl⟩ := List.getElem_of_mem hx; exact hL2 i h⟩, fun _ => rfl⟩, hw⟩

/-- What Find answers. -/
def FindR (items : List (By × By)) (kids : List Int) (keys : List By) (key : By) (k : Nat) (ok : Bool) : Prop :=
  (WholeN items kids keys ∧ kids.length = 0 → k ≤ items.length ∧ (∀ j (h : j < items.length), j < k → cmpL items[j].1 key < 0) ∧ (∀ h : k < items.length, 0 ≤ cmpL items[k].1 key ∧ (ok = true ↔ cmpL items[k].1 key = 0)) ∧ (k = items.length → ok = false)) ∧ (¬(WholeN items kids keys ∧ kids.length = 0) → k = 0 ∧ ok = false)
theorem C_leafFind {A K B C : Option Addr} {items : List (By × By)} {kids : List Int} {keys : List By} {key : By} {n q m c e d g r : Nat} (w : World) (hI : RI w A items) (hZ : RZ w K kids) (hK : RKy w B keys) (hC : Rd w C key) (hn : n = items.length) (hq : q = kids.length) (hm : m = keys.length) (hg : g = key.length) (hl : LightI items) (hlz : kids.length ≤ 4000) (hlk : LightK keys) (hz : ∀ z ∈ kids, (Lit.int .i64 z).wf = true) (he : kids.length ≤ e) (hkl : key.length ≤ 4000000000) :
    CallsR Try.prog 7 [.agg #[.slice A n c, .slice K q e, .slice B m d], .slice C g r] w fun v w' => ∃ (k : Nat) (ok : Bool), v = .tuple #[.int .i64 k, .bool ok] ∧ FindR items kids keys key k ok ∧ Below w.heap.size w w' := by
  subst hn; subst hq; subst hm; subst hg
  unfold FindR
  refine callsR Try.func7 rfl rfl (by kernel_rfl) rfl ?_
  have hw := Below.refl w.heap.size w
  refine rk_seq ?_
  refine rk_region ?_
  refine wl_boxg [_, _, _] rfl (by rfl) ?_
  rintro g2 w2 f2 b2 i2 i2_1
  have s2 := b2.size
  replace hw := hw.trans (b2.mono hw.size)
  refine wl_p (fun _ => o_assign rfl) ?_
  refine wl_p (fun _ => o_assign rfl) ?_
  refine wl_nil ?_
  refine rk_seq ?_
  refine rk_seq ?_
  refine rk_region ?_
  refine wl_r (o_loadag Try.isAgg26 Try.sizeOf26 rfl f2 (by rfl)) ?_
  refine wl_call rfl (C_leafCheck _ (hI.u hw) (hZ.u hw) (hK.u hw) rfl rfl rfl (by omega) (by omega) (by omega) (by omega) (by omega)) ?_
  rintro v11 w11 ⟨z11, ⟨rfl, ⟨i11, ⟨i11_1, b11⟩⟩⟩⟩
  have s11 := b11.size
  replace hw := hw.trans (b11.mono hw.size)
  replace f2 := f2.u b11
  refine wl_p (fun _ => o_ne rfl rfl) ?_
  refine wl_nil ?_
  refine rk_if rfl (fun h12 => ?_) (fun h12 => ?_)
  · refine rk_seq ?_
    refine rk_region ?_
    refine wl_p (fun _ => o_assign rfl) ?_
    refine wl_p (fun _ => o_assign rfl) ?_
    refine wl_nil ?_
    refine ret2 rfl rfl rfl ?_
    exact ⟨0, false, rfl, ⟨fun h => absurd (i11_1.2 h.1) h12, fun _ => ⟨rfl, rfl⟩⟩, hw⟩
  have hW : WholeN items kids keys := i11_1.1 (by omega)
  by_cases hq : kids.length = 0
  · refine rk_skip ?_
    refine rk_seq ?_
    refine rk_seq ?_
    refine rk_region ?_
    refine wl_r (o_loadag Try.isAgg26 Try.sizeOf26 rfl f2 (by rfl)) ?_
    refine wl_call rfl (C_shapeOfL _ hq) ?_
    rintro v14 w14 ⟨rfl, b14⟩
    have s14 := b14.size
    replace hw := hw.trans (b14.mono hw.size)
    replace f2 := f2.u b14
    refine wl_nil ?_
    refine rk_block ?_
    refine rk_seq ?_
    refine rk_region ?_
    refine wl_p (fun _ => (o_assertYes Try.underlying49 rfl)) ?_
    refine wl_p (fun _ => o_ext21 rfl) ?_
    refine wl_p (fun _ => o_ext20 rfl) ?_
    refine wl_nil ?_
    refine rk_true rfl ?_
    refine rk_seq ?_
    refine rk_region ?_
    refine wl_allocg [_, _] Try.zeroValue49 (by rfl) ?_
    rintro g6 w6 f6 b6 i6 i6_1
    have s6 := b6.size
    replace hw := hw.trans (b6.mono hw.size)
    replace f2 := f2.u b6
    refine wl_storega Try.sizeOf49 rfl rfl (by rfl) (oneCell_of (by rfl)) f6 (by rfl) ?_
    rintro w_1 f g e_1
    have s := g.size
    replace hw := hw.trans (below_of_grownBy g.g hw.size (by omega))
    replace f2 := f2.k g.g (ap_some (by omega))
    clear f6
    refine wl_nil ?_
    refine rk_seq ?_
    refine rk_seq ?_
    refine rk_region ?_
    refine wl_p (fun _ => o_faddr (s := 49) (i := 0) (off := 0) Try.underlying49 rfl Try.sizeOf22 rfl rfl rfl) ?_
    refine wl_r (o_loadbg Try.isAgg22 rfl f (by rfl)) ?_
    refine wl_p (fun _ => o_len (t := 22) Try.underlying22 rfl) ?_
    refine wl_p (fun _ => o_move rfl) ?_
    refine wl_nil ?_
    refine rk_block ?_
    obtain ⟨hl1, hl2⟩ := hl
    refine rk_joinf (fun fb fr w3 => fr = [] ++ fb.drop 1 ∧ (∀ j (h : j < items.length), cmpL items[j].1 key < 0) ∧ Below w_1.heap.size w_1 w3) ?_ (fun ks hj => ?_)
    rotate_left
    · refine rk_loopf (fun fb m fr w3 => ∃ (i : Nat) (v : Int), fr = [(21, .int .i64 v)] ++ fb ∧ v = i ∧ i ≤ items.length ∧ m = items.length - i ∧ (∀ j (h : j < items.length), j < i → cmpL items[j].1 key < 0) ∧ Below w_1.heap.size w_1 w3) (n := items.length) (Fr.le_of (by kernel_rfl) (by kernel_rfl) (by repeat' constructor)) ⟨0, _, rfl, rfl, by omega, rfl, fun j _ h => absurd h (Nat.not_lt_zero _), Below.refl _ _⟩ ?_
      rintro m fr w3 ⟨i, v, rfl, rfl, hi, rfl, hok, hw1⟩
      first | refine rk_frame (by simp only [List.cons_append, List.nil_append, List.drop_succ_cons, List.drop_zero]; rfl) ?_ | refine wl_frame (by simp only [List.cons_append, List.nil_append, List.drop_succ_cons, List.drop_zero]; rfl) ?_
      have shw1 := hw1.size
      replace hw := hw.trans (hw1.mono hw.size)
      replace f2 := f2.u hw1
      replace f := f.u hw1
      refine rk_seq ?_
      refine rk_region ?_
      refine wl_p (fun _ => o_lt rfl rfl) ?_
      refine wl_nil ?_
      refine rk_seq ?_
      refine rk_if rfl (fun h22 => ?_) (fun h22 => ?_)
      · have hil : i < items.length := by omega
        have n1 := (hl2 _ (List.getElem_mem hil)).1
        refine rk_skip ?_
        refine rk_seq ?_
        refine rk_block ?_
        refine rk_seq ?_
        refine rk_region ?_
        refine wl_p (fun _ => o_move rfl) ?_
        refine wl_p (fun _ => (o_iaddrA (i) Try.underlying22 Try.sizeOf31 rfl rfl rfl (hI.some_ (by omega)) (by omega))) ?_
        refine wl_ldItem rfl hI hw (by omega) ?_
        rintro A125 c125 A225 c225 f25 f25_1 i25 i25_1
        refine wl_allocg [_, _] Try.zeroValue31 (by rfl) ?_
        rintro g8 w8 f8 b8 i8 i8_1
        have s8 := b8.size
        replace hw1 := hw1.trans (b8.mono hw1.size)
        replace hw := hw.trans (b8.mono hw.size)
        replace f := f.u b8
        replace f2 := f2.u b8
        refine wl_p (fun _ => o_assign rfl) ?_
        refine wl_storega Try.sizeOf31 rfl rfl (by rfl) (oneCell_of (by rfl)) f8 (by rfl) ?_
        rintro w_2 f_1 g_1 e_2
        have s_1 := g_1.size
        replace hw1 := hw1.trans (below_of_grownBy g_1.g hw1.size (by omega))
        replace hw := hw.trans (below_of_grownBy g_1.g hw.size (by omega))
        replace f2 := f2.k g_1.g (ap_some (by omega))
        replace f := f.k g_1.g (ap_some (by omega))
        clear f8
        refine wl_nil ?_
        refine rk_seq ?_
        refine rk_region ?_
        refine wl_p (fun _ => o_faddr (s := 31) (i := 0) (off := 0) Try.underlying31 rfl Try.sizeOf27 rfl rfl rfl) ?_
        refine wl_r (o_loadbg Try.isAgg27 rfl f_1 (by rfl)) ?_
        refine wl_p (fun _ => o_move rfl) ?_
        refine wl_call rfl (C_leafCompare _ (f25.u hw) (hC.u hw) rfl rfl (by omega) (by omega)) ?_
        rintro v29 w29 ⟨rfl, b29⟩
        have s29 := b29.size
        replace hw1 := hw1.trans (b29.mono hw1.size)
        replace hw := hw.trans (b29.mono hw.size)
        replace f := f.u b29
        replace f2 := f2.u b29
        replace f_1 := f_1.u b29
        refine wl_p (fun _ => o_assign rfl) ?_
        refine wl_nil ?_
        refine rk_seq ?_
        refine rk_region ?_
        refine wl_p (fun _ => o_move rfl) ?_
        refine wl_p (fun _ => o_ge rfl rfl) ?_
        refine wl_nil ?_
        refine rk_if rfl (fun h31 => ?_) (fun h31 => ?_)
        · refine rk_seq ?_
          refine rk_region ?_
          refine wl_p (fun _ => o_move rfl) ?_
          refine wl_p (fun _ => o_move rfl) ?_
          refine wl_p (fun _ => o_eq rfl rfl) ?_
          refine wl_p (fun _ => o_assign rfl) ?_
          refine wl_p (fun _ => o_assign rfl) ?_
          refine wl_nil ?_
          refine ret2 rfl rfl rfl ?_
          exact ⟨i, _, rfl, ⟨fun _ => ⟨by omega, fun j hj hji => hok j hj hji, fun h => ⟨by omega, by simp⟩, fun h => absurd h (by omega)⟩, fun h => absurd ⟨hW, hq⟩ h⟩, hw⟩
        · refine rk_skip ?_
          refine rk_blk ?_
          refine rk_region ?_
          refine wl_p (fun _ => o_add rfl rfl (by omega) (by omega)) ?_
          refine wl_p (fun _ => o_move rfl) ?_
          refine wl_nil ?_
          exact rk_againf (Fr.le_of (by kernel_rfl) (by kernel_rfl) (by repeat' constructor)) ⟨i + 1, (i : Int) + 1, rfl, by omega, by omega, rfl, fun j hj hji => by
            rcases Nat.lt_or_ge j i with h | h
            · exact hok j hj h
            · obtain rfl : j = i := by omega
              omega, hw1⟩ (by omega)
      · refine rk_exit rfl ?_
        exact rk_tof hj (Fr.le_of (by kernel_rfl) (by kernel_rfl) (by repeat' constructor)) ⟨rfl, fun j h => hok j h (by omega), hw1⟩
    rintro fr w3 ⟨rfl, hL1, hw1⟩
    first | refine rk_frame (by simp only [List.cons_append, List.nil_append, List.drop_succ_cons, List.drop_zero]; rfl) ?_ | refine wl_frame (by simp only [List.cons_append, List.nil_append, List.drop_succ_cons, List.drop_zero]; rfl) ?_
    have shw1 := hw1.size
    replace hw := hw.trans (hw1.mono hw.size)
    replace f2 := f2.u hw1
    replace f := f.u hw1
    refine rk_seq ?_
    refine rk_region ?_
    refine wl_p (fun _ => o_faddr (s := 49) (i := 0) (off := 0) Try.underlying49 rfl Try.sizeOf22 rfl rfl rfl) ?_
    refine wl_r (o_loadbg Try.isAgg22 rfl f (by rfl)) ?_
    refine wl_p (fun _ => o_len (t := 22) Try.underlying22 rfl) ?_
    refine wl_p (fun _ => o_assign rfl) ?_
    refine wl_p (fun _ => o_assign rfl) ?_
    refine wl_nil ?_
    refine ret2 rfl rfl rfl ?_
    exact ⟨items.length, _, rfl, ⟨fun _ => ⟨Nat.le_refl _, fun j hj _ => hL1 j hj, fun h => absurd h (by omega), fun _ => rfl⟩, fun h => absurd ⟨hW, hq⟩ h⟩, hw⟩
  · refine rk_skip ?_
    refine rk_seq ?_
    refine rk_seq ?_
    refine rk_region ?_
    refine wl_r (o_loadag Try.isAgg26 Try.sizeOf26 rfl f2 (by rfl)) ?_
    refine wl_call rfl (C_shapeOfB _ (by omega)) ?_
    rintro v14 w14 ⟨rfl, b14⟩
    have s14 := b14.size
    replace hw := hw.trans (b14.mono hw.size)
    replace f2 := f2.u b14
    refine wl_nil ?_
    refine rk_block ?_
    refine rk_seq ?_
    refine rk_region ?_
    refine wl_p (fun _ => (o_assertNo Try.underlying49 rfl (by simp) Try.zeroValue49)) ?_
    refine wl_p (fun _ => o_ext21 rfl) ?_
    refine wl_p (fun _ => o_ext20 rfl) ?_
    refine wl_nil ?_
    refine rk_false rfl ?_
    refine rk_skip ?_
    refine rk_blk ?_
    refine rk_seq ?_
    refine rk_region ?_
    refine wl_p (fun _ => o_assign rfl) ?_
    refine wl_p (fun _ => o_assign rfl) ?_
    refine wl_nil ?_
    refine ret2 rfl rfl rfl ?_
    exact ⟨0, false, rfl, ⟨fun h => absurd h.2 hq, fun _ => ⟨rfl, rfl⟩⟩, hw⟩

/-- What Kid answers. -/
def KidR (items : List (By × By)) (kids : List Int) (keys : List By) (key : By) (z : Int) : Prop :=
  (WholeN items kids keys ∧ kids.length ≠ 0 → ∃ k : Nat, z = k ∧ k ≤ keys.length ∧ (∀ j (h : j < keys.length), j < k → cmpL keys[j] key ≤ 0) ∧ (∀ h : k < keys.length, 0 < cmpL keys[k] key)) ∧ (¬(WholeN items kids keys ∧ kids.length ≠ 0) → z = -1)
theorem C_leafKid {A K B C : Option Addr} {items : List (By × By)} {kids : List Int} {keys : List By} {key : By} {n q m c e d g r : Nat} (w : World) (hI : RI w A items) (hZ : RZ w K kids) (hK : RKy w B keys) (hC : Rd w C key) (hn : n = items.length) (hq : q = kids.length) (hm : m = keys.length) (hg : g = key.length) (hl : LightI items) (hlz : kids.length ≤ 4000) (hlk : LightK keys) (hz : ∀ z ∈ kids, (Lit.int .i64 z).wf = true) (he : kids.length ≤ e) (hkl : key.length ≤ 4000000000) :
    CallsR Try.prog 8 [.agg #[.slice A n c, .slice K q e, .slice B m d], .slice C g r] w fun v w' => ∃ z, v = .int .i64 z ∧ KidR items kids keys key z ∧ Below w.heap.size w w' := by
  subst hn; subst hq; subst hm; subst hg
  unfold KidR
  refine callsR Try.func8 rfl rfl (by kernel_rfl) rfl ?_
  have hw := Below.refl w.heap.size w
  refine rk_seq ?_
  refine rk_region ?_
  refine wl_boxg [_, _, _] rfl (by rfl) ?_
  rintro g2 w2 f2 b2 i2 i2_1
  have s2 := b2.size
  replace hw := hw.trans (b2.mono hw.size)
  refine wl_p (fun _ => o_assign rfl) ?_
  refine wl_nil ?_
  refine rk_seq ?_
  refine rk_seq ?_
  refine rk_region ?_
  refine wl_r (o_loadag Try.isAgg26 Try.sizeOf26 rfl f2 (by rfl)) ?_
  refine wl_call rfl (C_leafCheck _ (hI.u hw) (hZ.u hw) (hK.u hw) rfl rfl rfl (by omega) (by omega) (by omega) (by omega) (by omega)) ?_
  rintro v9 w9 ⟨z9, ⟨rfl, ⟨i9, ⟨i9_1, b9⟩⟩⟩⟩
  have s9 := b9.size
  replace hw := hw.trans (b9.mono hw.size)
  replace f2 := f2.u b9
  refine wl_p (fun _ => o_ne rfl rfl) ?_
  refine wl_nil ?_
  refine rk_if rfl (fun h10 => ?_) (fun h10 => ?_)
  · refine rk_seq ?_
    refine rk_region ?_
    refine wl_p (fun _ => o_assign rfl) ?_
    refine wl_nil ?_
    refine ret1 rfl rfl ?_
    exact ⟨_, rfl, ⟨fun h => absurd (i9_1.2 h.1) h10, fun _ => rfl⟩, hw⟩
  have hW : WholeN items kids keys := i9_1.1 (by omega)
  by_cases hq : kids.length = 0
  · refine rk_skip ?_
    refine rk_seq ?_
    refine rk_seq ?_
    refine rk_region ?_
    refine wl_r (o_loadag Try.isAgg26 Try.sizeOf26 rfl f2 (by rfl)) ?_
    refine wl_call rfl (C_shapeOfL _ hq) ?_
    rintro v12 w12 ⟨rfl, b12⟩
    have s12 := b12.size
    replace hw := hw.trans (b12.mono hw.size)
    replace f2 := f2.u b12
    refine wl_nil ?_
    refine rk_block ?_
    refine rk_seq ?_
    refine rk_region ?_
    refine wl_p (fun _ => (o_assertNo Try.underlying51 rfl (by simp) Try.zeroValue51)) ?_
    refine wl_p (fun _ => o_ext21 rfl) ?_
    refine wl_p (fun _ => o_ext20 rfl) ?_
    refine wl_nil ?_
    refine rk_false rfl ?_
    refine rk_skip ?_
    refine rk_blk ?_
    refine rk_seq ?_
    refine rk_region ?_
    refine wl_p (fun _ => o_assign rfl) ?_
    refine wl_nil ?_
    refine ret1 rfl rfl ?_
    exact ⟨_, rfl, ⟨fun h => absurd hq h.2, fun _ => rfl⟩, hw⟩
  · refine rk_skip ?_
    refine rk_seq ?_
    refine rk_seq ?_
    refine rk_region ?_
    refine wl_r (o_loadag Try.isAgg26 Try.sizeOf26 rfl f2 (by rfl)) ?_
    refine wl_call rfl (C_shapeOfB _ (by omega)) ?_
    rintro v12 w12 ⟨rfl, b12⟩
    have s12 := b12.size
    replace hw := hw.trans (b12.mono hw.size)
    replace f2 := f2.u b12
    refine wl_nil ?_
    refine rk_block ?_
    refine rk_seq ?_
    refine rk_region ?_
    refine wl_p (fun _ => (o_assertYes Try.underlying51 rfl)) ?_
    refine wl_p (fun _ => o_ext21 rfl) ?_
    refine wl_p (fun _ => o_ext20 rfl) ?_
    refine wl_nil ?_
    refine rk_true rfl ?_
    refine rk_seq ?_
    refine rk_region ?_
    refine wl_allocg [_, _, _] Try.zeroValue51 (by rfl) ?_
    rintro g5 w5 f5 b5 i5 i5_1
    have s5 := b5.size
    replace hw := hw.trans (b5.mono hw.size)
    replace f2 := f2.u b5
    refine wl_storega Try.sizeOf51 rfl rfl (by rfl) (oneCell_of (by rfl)) f5 (by rfl) ?_
    rintro w_1 f g e_1
    have s := g.size
    replace hw := hw.trans (below_of_grownBy g.g hw.size (by omega))
    replace f2 := f2.k g.g (ap_some (by omega))
    clear f5
    refine wl_nil ?_
    refine rk_seq ?_
    refine rk_seq ?_
    refine rk_region ?_
    refine wl_p (fun _ => o_faddr (s := 51) (i := 2) (off := 2) Try.underlying51 rfl Try.sizeOf24 rfl rfl rfl) ?_
    refine wl_r (o_loadbg Try.isAgg24 rfl f (by rfl)) ?_
    refine wl_p (fun _ => o_len (t := 24) Try.underlying24 rfl) ?_
    refine wl_p (fun _ => o_move rfl) ?_
    refine wl_nil ?_
    refine rk_block ?_
    obtain ⟨hl1, hl2⟩ := hlk
    refine rk_joinf (fun fb fr w3 => fr = [] ++ fb.drop 1 ∧ (∀ j (h : j < keys.length), cmpL keys[j] key ≤ 0) ∧ Below w_1.heap.size w_1 w3) ?_ (fun ks hj => ?_)
    rotate_left
    · refine rk_loopf (fun fb m fr w3 => ∃ (i : Nat) (v : Int), fr = [(19, .int .i64 v)] ++ fb ∧ v = i ∧ i ≤ keys.length ∧ m = keys.length - i ∧ (∀ j (h : j < keys.length), j < i → cmpL keys[j] key ≤ 0) ∧ Below w_1.heap.size w_1 w3) (n := keys.length) (Fr.le_of (by kernel_rfl) (by kernel_rfl) (by repeat' constructor)) ⟨0, _, rfl, rfl, by omega, rfl, fun j _ h => absurd h (Nat.not_lt_zero _), Below.refl _ _⟩ ?_
      rintro m fr w3 ⟨i, v, rfl, rfl, hi, rfl, hok, hw1⟩
      first | refine rk_frame (by simp only [List.cons_append, List.nil_append, List.drop_succ_cons, List.drop_zero]; rfl) ?_ | refine wl_frame (by simp only [List.cons_append, List.nil_append, List.drop_succ_cons, List.drop_zero]; rfl) ?_
      have shw1 := hw1.size
      replace hw := hw.trans (hw1.mono hw.size)
      replace f2 := f2.u hw1
      replace f := f.u hw1
      refine rk_seq ?_
      refine rk_region ?_
      refine wl_p (fun _ => o_lt rfl rfl) ?_
      refine wl_nil ?_
      refine rk_seq ?_
      refine rk_if rfl (fun h20 => ?_) (fun h20 => ?_)
      · have hil : i < keys.length := by omega
        have n1 := hl2 _ (List.getElem_mem hil)
        refine rk_skip ?_
        refine rk_seq ?_
        refine rk_block ?_
        refine rk_seq ?_
        refine rk_region ?_
        refine wl_p (fun _ => o_move rfl) ?_
        refine wl_p (fun _ => (o_iaddrA1 (i) Try.underlying24 Try.sizeOf27 rfl rfl rfl (hK.some_ (by omega)) (by omega))) ?_
        refine wl_ldKy rfl hK hw (by omega) ?_
        rintro A123 c123 f23 i23
        refine wl_p (fun _ => o_assign rfl) ?_
        refine wl_p (fun _ => o_assign rfl) ?_
        refine wl_nil ?_
        refine rk_seq ?_
        refine rk_region ?_
        refine wl_p (fun _ => o_move rfl) ?_
        refine wl_p (fun _ => o_move rfl) ?_
        refine wl_call rfl (C_leafCompare _ (f23.u hw) (hC.u hw) rfl rfl (by omega) (by omega)) ?_
        rintro v26 w26 ⟨rfl, b26⟩
        have s26 := b26.size
        replace hw1 := hw1.trans (b26.mono hw1.size)
        replace hw := hw.trans (b26.mono hw.size)
        replace f := f.u b26
        replace f2 := f2.u b26
        refine wl_p (fun _ => o_gt rfl rfl) ?_
        refine wl_nil ?_
        refine rk_if rfl (fun h27 => ?_) (fun h27 => ?_)
        · refine rk_seq ?_
          refine rk_region ?_
          refine wl_p (fun _ => o_move rfl) ?_
          refine wl_p (fun _ => o_assign rfl) ?_
          refine wl_nil ?_
          refine ret1 rfl rfl ?_
          exact ⟨_, rfl, ⟨fun _ => ⟨i, rfl, by omega, fun j hj hji => hok j hj hji, fun h => by omega⟩, fun h => absurd ⟨hW, hq⟩ h⟩, hw⟩
        · refine rk_skip ?_
          refine rk_blk ?_
          refine rk_region ?_
          refine wl_p (fun _ => o_add rfl rfl (by omega) (by omega)) ?_
          refine wl_p (fun _ => o_move rfl) ?_
          refine wl_nil ?_
          exact rk_againf (Fr.le_of (by kernel_rfl) (by kernel_rfl) (by repeat' constructor)) ⟨i + 1, (i : Int) + 1, rfl, by omega, by omega, rfl, fun j hj hji => by
            rcases Nat.lt_or_ge j i with h | h
            · exact hok j hj h
            · obtain rfl : j = i := by omega
              omega, hw1⟩ (by omega)
      · refine rk_exit rfl ?_
        exact rk_tof hj (Fr.le_of (by kernel_rfl) (by kernel_rfl) (by repeat' constructor)) ⟨rfl, fun j h => hok j h (by omega), hw1⟩
    rintro fr w3 ⟨rfl, hL1, hw1⟩
    first | refine rk_frame (by simp only [List.cons_append, List.nil_append, List.drop_succ_cons, List.drop_zero]; rfl) ?_ | refine wl_frame (by simp only [List.cons_append, List.nil_append, List.drop_succ_cons, List.drop_zero]; rfl) ?_
    have shw1 := hw1.size
    replace hw := hw.trans (hw1.mono hw.size)
    replace f2 := f2.u hw1
    replace f := f.u hw1
    refine rk_seq ?_
    refine rk_region ?_
    refine wl_p (fun _ => o_faddr (s := 51) (i := 2) (off := 2) Try.underlying51 rfl Try.sizeOf24 rfl rfl rfl) ?_
    refine wl_r (o_loadbg Try.isAgg24 rfl f (by rfl)) ?_
    refine wl_p (fun _ => o_len (t := 24) Try.underlying24 rfl) ?_
    refine wl_p (fun _ => o_assign rfl) ?_
    refine wl_nil ?_
    refine ret1 rfl rfl ?_
    exact ⟨_, rfl, ⟨fun _ => ⟨keys.length, rfl, Nat.le_refl _, fun j hj _ => hL1 j hj, fun h => absurd h (by omega)⟩, fun h => absurd ⟨hW, hq⟩ h⟩, hw⟩
end Go.Proofs.Ytchcpnfafgiifaa
/-
  Rows of values of any Go type: slices of the call's own, literals, appends. No function of the program is named here.
-/
namespace Go.Proofs.Ytchcpnfafgiifaa
open Go.RowKit
theorem part_flatMap {f : Value → List Value} {m : Nat} : ∀ (vs : List Value) (_ : ∀ v ∈ vs, (f v).length = m) (i : Nat) (hi : i < vs.length), part (vs.flatMap f) m i = f vs[i]
  | v :: vs, h, 0, _ => by
    simp only [part, Nat.zero_mul, List.drop_zero, List.flatMap_cons, List.getElem_cons_zero]
    rw [← h v (by simp)]
    exact List.take_left
  | v :: vs, h, i + 1, hi => by
    have ih := part_flatMap vs (fun u hu => h u (by simp [hu])) i (by simpa using hi)
    simp only [part, List.flatMap_cons, List.getElem_cons_succ] at ih ⊢
    rw [← ih, show (i + 1) * m = (f v).length + i * m by rw [h v (by simp), Nat.add_mul]; omega, ← List.drop_drop, List.drop_left]
section
variable {α : Type} {X : GoT α} {e e' : TypeId} {w w' : World} {lo hi lo' hi' c b : Nat} {A : Option Addr} {L M : List α} {row : Option Nat}
/-- Elements that are read, with the types of what they reach. -/
def RSlT (X : GoT α) (e : TypeId) (w : World) (A : Option Addr) (L : List α) : Prop := ∃ xs, Reads w X.sz A L.length xs ∧ (∀ k, blk A = some k → TyAt w k e) ∧ ∀ i (h : i < L.length), X.T w (part xs X.sz i) L[i]
theorem RSlT.u (h : RSlT X e w A L) (hb : Below w.heap.size w w') : RSlT X e w' A L := by
  obtain ⟨xs, h1, h2, h3⟩ := h
  exact ⟨xs, h1.below hb, fun k hk => (h2 k hk).keep (hb.block k (h2 k hk).lt), fun i hi => X.tu (h3 i hi) hb⟩
theorem RSlT.d (h : RSlT X e w A L) : RSlT X e w.drew A L := h.u (below_drew w)
theorem RSlT.y (h : RSlT X e w A L) (hg : Grew w w' e' row) (hne : e' ∉ e :: X.tys) : RSlT X e w' A L := by
  obtain ⟨xs, h3, h4, h5⟩ := h
  rw [List.mem_cons, not_or] at hne
  have hb := grew_blk hg h4 hne.1
  refine ⟨xs, h3.grown hg.g hb, fun k hk => (h4 k hk).keep (hg.g.block k (h4 k hk).lt (fun e => ?_)), fun i hi => X.ty (h5 i hi) hg hne.2⟩
  rcases hb with h6 | h6
  · rw [h6] at hk; cases hk
  · exact h6 (hk.trans e)
theorem RSlT.m (h : RSlT X e w A L) (hg : GrewM w w' b) : RSlT X e w' A L := by
  obtain ⟨xs, h3, h4, h5⟩ := h
  have hb := growm_blk hg h4
  refine ⟨xs, h3.grown hg.g hb, fun k hk => (h4 k hk).keep (hg.g.block k (h4 k hk).lt (fun e => ?_)), fun i hi => X.tm (h5 i hi) hg⟩
  rcases hb with h6 | h6
  · rw [h6] at hk; cases hk
  · exact h6 (hk.trans e)
theorem RSlT.nil_ : RSlT X e w none [] := ⟨[], Reads.none_ _ _ _, fun k hk => (by cases hk), fun i h => absurd h (Nat.not_lt_zero _)⟩
theorem RSlT.to_RSl (h : RSlT X e w A L) : RSl X w A L := by obtain ⟨xs, h1, h2, h3⟩ := h; exact ⟨xs, h1, fun i hi => X.tr (h3 i hi)⟩
/-- Elements of a row of the call's own. -/
def OwnS (X : GoT α) (e : TypeId) (w : World) (lo hi : Nat) (A : Option Addr) (c : Nat) (L : List α) : Prop := ∃ xs, RowH w lo hi e X.sz A L.length c xs ∧ ∀ i (h : i < L.length), X.T w (part xs X.sz i) L[i]
theorem OwnS.u (h : OwnS X e w lo hi A c L) (hb : Below w.heap.size w w') : OwnS X e w' lo hi A c L := by
  obtain ⟨xs, h1, h2⟩ := h
  exact ⟨xs, h1.u hb, fun i hi => X.tu (h2 i hi) hb⟩
theorem OwnS.d (h : OwnS X e w lo hi A c L) : OwnS X e w.drew lo hi A c L := h.u (below_drew w)
theorem OwnS.y (h : OwnS X e w lo hi A c L) (hg : Grew w w' e' row) (hne : e' ∉ e :: X.tys) : OwnS X e w' lo hi A c L := by
  obtain ⟨xs, h1, h2⟩ := h
  rw [List.mem_cons, not_or] at hne
  exact ⟨xs, h1.y hg hne.1, fun i hi => X.ty (h2 i hi) hg hne.2⟩
theorem OwnS.q (h : OwnS X e w lo hi A c L) (hg : Grew w w' e' row) (ha : Ap row lo hi) (hne : e' ∉ X.tys) : OwnS X e w' lo hi A c L := by
  obtain ⟨xs, h1, h2⟩ := h
  exact ⟨xs, h1.k hg.g ha, fun i hi => X.ty (h2 i hi) hg hne⟩
theorem OwnS.m (h : OwnS X e w lo hi A c L) (hg : GrewM w w' b) : OwnS X e w' lo hi A c L := by
  obtain ⟨xs, h1, h2⟩ := h
  exact ⟨xs, h1.m hg, fun i hi => X.tm (h2 i hi) hg⟩
theorem OwnS.ap (h : OwnS X e w lo hi A c L) (hd : hi ≤ lo' ∨ hi' ≤ lo) : Ap (blk A) lo' hi' := by obtain ⟨xs, h1, _⟩ := h; exact h1.ap hd
theorem OwnS.cap (h : OwnS X e w lo hi A c L) : L.length ≤ c := by obtain ⟨xs, h1, _⟩ := h; exact h1.cap
theorem OwnS.nil_ : OwnS X e w lo hi none 0 [] := ⟨[], RowH.nil _ _ _ _ _, fun i h => absurd h (Nat.not_lt_zero _)⟩
theorem OwnS.base (h : OwnS X e w lo hi A c L) (h1 : lo' ≤ lo) (h2 : hi ≤ hi') : OwnS X e w lo' hi' A c L := by obtain ⟨xs, h3, h4⟩ := h; exact ⟨xs, h3.base h1 h2, h4⟩
theorem OwnS.to_RSlT (h : OwnS X e w lo hi A c L) : RSlT X e w A L := by obtain ⟨xs, h1, h2⟩ := h; exact ⟨xs, h1.rd, h1.ty, h2⟩
theorem OwnS.to_RSl (h : OwnS X e w lo hi A c L) : RSl X w A L := h.to_RSlT.to_RSl
theorem litS_part {vs : List Value} {L : List α} (hn : vs.length = L.length) (hX : ∀ i (h : i < L.length), ∃ v, vs[i]? = some v ∧ v.cells.size = X.sz ∧ X.T w v.cells.toList L[i]) :
    ∀ i (h : i < L.length), X.T w (part (vs.flatMap fun v => v.cells.toList) X.sz i) L[i] := fun i h => by
  have hall : ∀ v ∈ vs, v.cells.toList.length = X.sz := fun v hv => by
    obtain ⟨j, hj, rfl⟩ := List.getElem_of_mem hv
    obtain ⟨u, h1, h2, _⟩ := hX j (by omega)
    rw [List.getElem?_eq_getElem hj] at h1
    injection h1 with h1
    rw [h1, Array.length_toList]; exact h2
  rw [part_flatMap vs hall i (by omega)]
  obtain ⟨v, h1, _, h3⟩ := hX i h
  rw [List.getElem?_eq_getElem (by omega)] at h1
  injection h1 with h1
  rw [h1]; exact h3
end
section
variable {α : Type} {X : GoT α} {P : Program} {fn : Func} {F : Ending → World → Prop} {N : Nat} {ks : List K} {ops : Array Oper} {tg : Tags} {l : List Oper} {fr : Fr} {w : World} {ty t e : TypeId} {z : Value} {pos : String} {aft : Array Edge} {gd : Option (Nat × Bool)} {d n sz bytes c j q lo hi : Nat} {x y : Operand} {A B : Option Addr} {L M : List α}
theorem wl_litS {ps : Array (Nat × Operand)} {xs : List Operand} {vs : List Value} (T : RowT P t e z X.sz bytes) (hs : ∀ w, (sizeOf e).run P w = .ok X.sz w) (hz : ∀ w, (zeroValue e).run P w = .ok z w) (hxs : ps.toList.map Prod.snd = xs) (hps : ps = ((List.range' 0 n).zip xs).toArray) (hx : fr.evs xs = some vs) (hn : vs.length = n) (hL : L.length = n)
    (hX : ∀ i (h : i < L.length), ∃ v, vs[i]? = some v ∧ v.cells.size = X.sz ∧ X.T w v.cells.toList L[i]) (hm : Nat.ble (n * X.sz) 1000000 = true)
    (hk : ∀ A w', OwnS X e w' w.heap.size w'.heap.size A n L → Below w.heap.size w w' → WL P fn F N ks ops tg.tail l ((d, .slice A n n) :: fr) w')
    (ht : tg.loud = true := by rfl) (hg : onG ops fr gd = true := by rfl) (hd : Nat.blt d N = true := by rfl) : WL P fn F N ks ops tg (⟨some d, .buildSlice t n ps, ty, pos, aft, gd⟩ :: l) fr w := by
  refine wl_litR T hs hz hxs hps hx hn (fun v hv => ?_) hm (fun A w' h1 h2 => hk A w' ⟨_, ?_, fun i h => X.tu (litS_part (w := w) (by omega) hX i h) h2⟩ h2) ht hg hd
  · obtain ⟨j, hj, rfl⟩ := List.getElem_of_mem hv
    obtain ⟨u, h1, h2, _⟩ := hX j (by omega)
    rw [List.getElem?_eq_getElem hj] at h1
    injection h1 with h1
    rw [h1]; exact h2
  · rw [hL]; exact h1
theorem litR_part {vs : List Value} (hn : vs.length = L.length) (hX : ∀ i (h : i < L.length), ∃ v, vs[i]? = some v ∧ v.cells.size = X.sz ∧ X.R w v.cells.toList L[i]) :
    ∀ i (h : i < L.length), X.R w (part (vs.flatMap fun v => v.cells.toList) X.sz i) L[i] := fun i h => by
  have hall : ∀ v ∈ vs, v.cells.toList.length = X.sz := fun v hv => by
    obtain ⟨j, hj, rfl⟩ := List.getElem_of_mem hv
    obtain ⟨u, h1, h2, _⟩ := hX j (by omega)
    rw [List.getElem?_eq_getElem hj] at h1
    injection h1 with h1
    rw [h1, Array.length_toList]; exact h2
  rw [part_flatMap vs hall i (by omega)]
  obtain ⟨v, h1, _, h3⟩ := hX i h
  rw [List.getElem?_eq_getElem (by omega)] at h1
  injection h1 with h1
  rw [h1]; exact h3
/-- A literal of what is only read. -/
theorem wl_litRS {ps : Array (Nat × Operand)} {xs : List Operand} {vs : List Value} (T : RowT P t e z X.sz bytes) (hs : ∀ w, (sizeOf e).run P w = .ok X.sz w) (hz : ∀ w, (zeroValue e).run P w = .ok z w) (hxs : ps.toList.map Prod.snd = xs) (hps : ps = ((List.range' 0 n).zip xs).toArray) (hx : fr.evs xs = some vs) (hn : vs.length = n) (hL : L.length = n)
    (hX : ∀ i (h : i < L.length), ∃ v, vs[i]? = some v ∧ v.cells.size = X.sz ∧ X.R w v.cells.toList L[i]) (hm : Nat.ble (n * X.sz) 1000000 = true)
    (hk : ∀ A w', RSl X w' A L → Below w.heap.size w w' → WL P fn F N ks ops tg.tail l ((d, .slice A n n) :: fr) w')
    (ht : tg.loud = true := by rfl) (hg : onG ops fr gd = true := by rfl) (hd : Nat.blt d N = true := by rfl) : WL P fn F N ks ops tg (⟨some d, .buildSlice t n ps, ty, pos, aft, gd⟩ :: l) fr w := by
  refine wl_litR T hs hz hxs hps hx hn (fun v hv => ?_) hm (fun A w' h1 h2 => hk A w' ⟨_, ?_, fun i h => X.u (litR_part (w := w) (by omega) hX i h) h2⟩ h2) ht hg hd
  · obtain ⟨j, hj, rfl⟩ := List.getElem_of_mem hv
    obtain ⟨u, h1, h2, _⟩ := hX j (by omega)
    rw [List.getElem?_eq_getElem hj] at h1
    injection h1 with h1
    rw [h1]; exact h2
  · rw [hL]; exact h1.rd
theorem wl_appS (T : RowT P t e z X.sz bytes) (hx : fr.ev x = some (.slice A n c)) (hown : OwnS X e w lo hi A c L) (hn : n = L.length) (hy : fr.ev y = some (.slice B j q)) (hr : RSlT X e w B M) (hj : j = M.length) (hne : e ∉ X.tys) (h1 : ∀ w cs a, X.T w cs a → ∀ u ∈ cs, u.oneCell' = true) (hlen : (L.length + M.length) * bytes ≤ 140737488355328) (hmx : L.length + M.length ≤ 1000000000) (hB : lo ≤ w.heap.size)
    (h : ∀ A' c' w', OwnS X e w' lo w'.heap.size A' c' (L ++ M) → Grew w w' e (blk A) → Below lo w w' → (blk A' = blk A ∨ blk A' = some w.heap.size) → WL P fn F N ks ops tg.tail l ((d, .slice A' (L ++ M).length c') :: fr) w')
    (ht : tg.loud = true := by rfl) (hg : onG ops fr gd = true := by rfl) (hd : Nat.blt d N = true := by rfl) (hq : tg.calm = false ∨ blk A = none ∨ blk A = tg.row := by exact .inl rfl) :
    WL P fn F N ks ops tg (⟨some d, .call { callee := .builtin .append, args := #[x, y], argTypes := #[t, t] }, ty, pos, aft, gd⟩ :: l) fr w := by
  subst hn; subst hj
  obtain ⟨xs, g1, g2⟩ := hown
  obtain ⟨ms, r1, r2, r3⟩ := hr
  have hxl : xs.length = L.length * X.sz := g1.rd.1
  have hml : ms.length = M.length * X.sz := r1.1
  refine wl_appR T hx g1 hy r1 (fun u hu => ?_) (by simp only [maxLen]; omega) hlen hB (fun A' c' w' k1 k2 k3 k4 => ?_) ht hg hd hq
  · obtain ⟨i, hi, rfl⟩ := List.getElem_of_mem hu
    have h0 := T.h0
    have hq : i / X.sz < M.length := (Nat.div_lt_iff_lt_mul h0).2 (by omega)
    refine h1 _ _ _ (r3 _ hq) _ (List.mem_of_getElem? (i := i % X.sz) ?_)
    rw [part_get (Nat.mod_lt _ h0), Nat.div_add_mod' i X.sz]
    exact List.getElem?_eq_getElem hi
  · have e2 : (L ++ M).length = L.length + M.length := List.length_append
    rw [← e2] at k1 ⊢
    refine h A' c' w' ⟨_, k1, fun i hi => ?_⟩ k2 k3 k4
    rcases Nat.lt_or_ge i L.length with hl | hl
    · rw [part_append_lt hxl hl, List.getElem_append_left hl]
      exact X.ty (g2 i hl) k2 hne
    · rw [List.getElem_append_right hl]
      have hi2 : i - L.length < M.length := by rw [e2] at hi; omega
      have := X.ty (r3 _ hi2) k2 hne
      have e3 : part (xs ++ ms) X.sz i = part ms X.sz (i - L.length) := by
        unfold part
        rw [show i * X.sz = xs.length + (i - L.length) * X.sz by rw [hxl, ← Nat.add_mul]; congr 1; omega, ← List.drop_drop, List.drop_left]
      rw [e3]; exact this
end
end Go.Proofs.Ytchcpnfafgiifaa
/-
  Literals of bytes that were strings. No function of the program is named here.
-/
namespace Go.Proofs.Ytchcpnfafgiifaa
open Go.RowKit
section
variable {P : Program} {fn : Func} {F : Ending → World → Prop} {N : Nat} {ks : List K} {ops : Array Oper} {tg : Tags} {l : List Oper} {fr : Fr} {w : World} {ty ty2 t : TypeId} {pos pos2 : String} {aft aft2 : Array Edge} {gd gd2 : Option (Nat × Bool)} {d d2 n : Nat}
theorem rdT_mark (w : World) (bs : List UInt8) (fr : Nat × Nat) : RdT (w.alloc (.cells (B8 bs).toArray 5 fr)) (some ⟨w.heap.size, 0, none⟩) bs := by
  refine ⟨⟨by simp [B8_length], fun _ => ⟨w.heap.size, 0, rfl, fun j v hj => ?_⟩⟩, fun k hk => ?_⟩
  · rw [Nat.zero_add, World.cell?_alloc_mark]
    simpa using hj
  · obtain rfl : w.heap.size = k := by simpa [blk] using hk
    exact ⟨(B8 bs).toArray, fr, by show (w.heap.push _)[w.heap.size]? = _; simp⟩
--@ rule buildSlice l wl_litC
theorem wl_litC {ps : Array (Nat × Operand)} {xs : List Operand} {vs : List Value} (bs : List UInt8) (T : U8 P t) (hs : ∀ w, (sizeOf 5).run P w = .ok 1 w) (hz : ∀ w, (zeroValue 5).run P w = .ok (.int .u8 0) w) (hxs : ps.toList.map Prod.snd = xs) (hx : fr.evs xs = some vs) (hv : vs = B8 bs) (hn : bs.length = n) (hps : ps = ((List.range' 0 n).zip xs).toArray) (hm : Nat.ble bs.length 1000000 = true)
    (hk : ∀ A w', RdT w' A bs → Below w.heap.size w w' → WL P fn F N ks ops tg.tail.tail l ((d2, .slice A n n) :: (d, .slice A n n) :: fr) w')
    (ht : tg.loud = true := by rfl) (ht2 : tg.tail.loud = true := by rfl) (hg : onG ops fr gd = true := by rfl) (hg2 : ∀ u, onG ops ((d, u) :: fr) gd2 = true := by intro _; rfl) (hd : Nat.blt d N = true := by rfl) (hd2 : Nat.blt d2 N = true := by rfl) (hq : tg.tail.calm = false := by rfl) :
    WL P fn F N ks ops tg (⟨some d, .buildSlice t n ps, ty, pos, aft, gd⟩ :: ⟨some d2, .convert t t (.tmp d), ty2, pos2, aft2, gd2⟩ :: l) fr w := by
  subst hps; subst hv; subst hn
  have hm' : bs.length ≤ 1000000 := by simpa using hm
  have hr := run_lit (P := P) (w := w) T.ht hs hz rfl (B8 bs) (B8_oneCell _) (by rw [B8_length]; omega)
  rw [B8_length] at hr
  refine wl_v (o_lit hx hr) ?_ ht hg hd (.inr (grown_of_below (below_alloc w _) _))
  have hv : Fr.ev ((d, .slice (some ⟨w.heap.size, 0, none⟩) bs.length bs.length) :: fr) (.tmp d) = some (.slice (some ⟨w.heap.size, 0, none⟩) bs.length bs.length) := by simp [Fr.ev, Fr.get]
  refine wl_v (w' := w.alloc (.cells (B8 bs).toArray 5 ((B8 bs).toArray.size, (B8 bs).toArray.size + 1))) (fun a ha o ho _ => ?_) (hk _ _ (rdT_mark w bs _) (below_alloc w _)) ht2 (hg2 _) hd2 (.inl hq)
  have := Lib.run_convert_bytes_const (P := P) w t 5 (B8 bs).toArray bs.length bs.length T.ht T.hu
  simp [execOp, ho, ha.ev hv, this]
end
end Go.Proofs.Ytchcpnfafgiifaa
/-
  Walks of package leaf: the bytes of a node, the chapter's examples.
-/
namespace Go.Proofs.Ytchcpnfafgiifaa
open Go.RowKit
--@ side Try.u8
--@ side RZ.nil_
--@ side RKy.nil_
--@ side RI.nil_
--@ side (by simp [LightI])
--@ side (by simp [LightK])
--@ side (by simp [Lit.wf])
/-- A block. -/
def blkB (p : By) : By := enc p.length ++ p
theorem blkB_le {p : By} {n : Nat} (h : p.length ≤ n) (hn : n ≤ 4000000000) : (blkB p).length ≤ n + 9 := by
  have h1 : (enc p.length).length ≤ 9 := by
    rw [enc_length]; unfold room; (repeat' split) <;> omega
  simp only [blkB, List.length_append]; omega
def wB (z : Int) : By := leB 4 z.toNat
theorem wB_len (z : Int) : (wB z).length = 4 := leB_length 4 _
theorem C_BlockN {X : Option Addr} {p : By} {k d : Nat} (w : World) (hp : Rd w X p) (hk : k = p.length) (hl : p.length ≤ 4000000000) :
    CallsR Try.prog 26 [.slice none 0 0, .slice X k d] w fun v w' => ∃ A' c', v = .slice A' (blkB p).length c' ∧ OwnH w' w.heap.size w'.heap.size A' c' (blkB p) ∧ Below w.heap.size w w' := by
  subst hk
  refine (C_Block (A := none) (l := []) 0 d w (Rd.nil _ _) hp (by simp; omega)).mono ?_
  rintro v w' ⟨A', c', rfl, h, hb⟩
  exact ⟨A', c', rfl, h.h_, hb⟩
theorem C_WordN {z : Int} (w : World) (h0 : 0 ≤ z) (h1 : z ≤ 4294967295) :
    CallsR Try.prog 27 [.slice none 0 0, .int .u64 z, .int .i64 4] w fun v w' => ∃ A' c', v = .slice A' (wB z).length c' ∧ OwnH w' w.heap.size w'.heap.size A' c' (wB z) ∧ Below w.heap.size w w' := by
  obtain ⟨n, rfl⟩ : ∃ n : Nat, z = n := ⟨z.toNat, by omega⟩
  refine (C_Word (A := none) (l := []) 0 n 4 w (Rd.nil _ _) (by unfold u64; omega) (by simp)).mono ?_
  rintro v w' ⟨A', c', rfl, h, hb⟩
  exact ⟨A', c', rfl, h.h_, hb⟩

/-- An item's bytes. -/
def itB (x : By × By) : By := blkB x.1 ++ blkB x.2
/-- A node's bytes. -/
def nodeB (items : List (By × By)) (kids : List Int) (keys : List By) : By :=
  if kids.length = 0 then [0, UInt8.ofNat items.length] ++ items.flatMap itB else [1, UInt8.ofNat kids.length] ++ kids.flatMap wB ++ keys.flatMap blkB
theorem C_leafBytes {A K B : Option Addr} {items : List (By × By)} {kids : List Int} {keys : List By} {n q m c e d : Nat} (w : World) (hI : RI w A items) (hZ : RZ w K kids) (hK : RKy w B keys) (hn : n = items.length) (hq : q = kids.length) (hm : m = keys.length) (hl : LightI items) (hlz : kids.length ≤ 4000) (hlk : LightK keys) (hz : ∀ z ∈ kids, (Lit.int .i64 z).wf = true) (he : kids.length ≤ e) :
    CallsR Try.prog 13 [.agg #[.slice A n c, .slice K q e, .slice B m d]] w fun v w' => ∃ (A' : Option Addr) (bs : By) (c' : Nat) (z : Int), v = .tuple #[.slice A' bs.length c', .int .i64 z] ∧ OwnH w' w.heap.size w'.heap.size A' c' bs ∧ (z = 0 ∨ z = 2) ∧ (z = 0 ↔ WholeN items kids keys) ∧ (z = 0 → bs = nodeB items kids keys) ∧ (z ≠ 0 → bs = []) ∧ Below w.heap.size w w' := by
  subst hn; subst hq; subst hm
  refine callsR Try.func13 rfl rfl (by kernel_rfl) rfl ?_
  have hw := Below.refl w.heap.size w
  refine rk_seq ?_
  refine rk_region ?_
  refine wl_boxg [_, _, _] rfl (by rfl) ?_
  rintro g1 w1 f1 b1 i1 i1_1
  have s1 := b1.size
  replace hw := hw.trans (b1.mono hw.size)
  refine wl_p (fun _ => o_assign rfl) ?_
  refine wl_p (fun _ => o_assign rfl) ?_
  refine wl_nil ?_
  refine rk_seq ?_
  refine rk_seq ?_
  refine rk_region ?_
  refine wl_r (o_loadag Try.isAgg26 Try.sizeOf26 rfl f1 (by rfl)) ?_
  refine wl_call rfl (C_leafCheck _ (hI.u hw) (hZ.u hw) (hK.u hw) rfl rfl rfl (by omega) (by omega) (by omega) (by omega) (by omega)) ?_
  rintro v15 w15 ⟨z15, ⟨rfl, ⟨i15, ⟨i15_1, b15⟩⟩⟩⟩
  have s15 := b15.size
  replace hw := hw.trans (b15.mono hw.size)
  replace f1 := f1.u b15
  refine wl_p (fun _ => o_assign rfl) ?_
  refine wl_nil ?_
  refine rk_seq ?_
  refine rk_region ?_
  refine wl_p (fun _ => o_move rfl) ?_
  refine wl_p (fun _ => o_ne rfl rfl) ?_
  refine wl_nil ?_
  refine rk_if rfl (fun h17 => ?_) (fun h17 => ?_)
  · refine rk_seq ?_
    refine rk_region ?_
    refine wl_p (fun _ => o_move rfl) ?_
    refine wl_p (fun _ => o_assign rfl) ?_
    refine wl_p (fun _ => o_assign rfl) ?_
    refine wl_nil ?_
    refine ret2 rfl rfl rfl ?_
    exact ⟨none, [], 0, _, rfl, OwnH.nil_, i15, i15_1, fun h => absurd h h17, fun _ => rfl, hw⟩
  have hW : WholeN items kids keys := i15_1.1 (by omega)
  by_cases hq : kids.length = 0
  · have hW2 : WholeL items keys := by unfold WholeN at hW; rwa [if_pos hq] at hW
    obtain ⟨hW3, hW4, hW5⟩ := hW2
    refine rk_skip ?_
    refine rk_seq ?_
    refine rk_region ?_
    refine wl_p (fun _ => o_assign rfl) ?_
    refine wl_nil ?_
    refine rk_seq ?_
    refine rk_seq ?_
    refine rk_region ?_
    refine wl_r (o_loadag Try.isAgg26 Try.sizeOf26 rfl f1 (by rfl)) ?_
    refine wl_call rfl (C_shapeOfL _ hq) ?_
    rintro v20 w20 ⟨rfl, b20⟩
    have s20 := b20.size
    replace hw := hw.trans (b20.mono hw.size)
    replace f1 := f1.u b20
    refine wl_nil ?_
    refine rk_block ?_
    refine rk_seq ?_
    refine rk_region ?_
    refine wl_p (fun _ => (o_assertYes Try.underlying49 rfl)) ?_
    refine wl_p (fun _ => o_ext21 rfl) ?_
    refine wl_p (fun _ => o_ext20 rfl) ?_
    refine wl_nil ?_
    refine rk_true rfl ?_
    refine rk_seq ?_
    refine rk_region ?_
    refine wl_allocg [_, _] Try.zeroValue49 (by rfl) ?_
    rintro g6 w6 f6 b6 i6 i6_1
    have s6 := b6.size
    replace hw := hw.trans (b6.mono hw.size)
    replace f1 := f1.u b6
    refine wl_storega Try.sizeOf49 rfl rfl (by rfl) (oneCell_of (by rfl)) f6 (by rfl) ?_
    rintro w_1 f g e_1
    have s := g.size
    replace hw := hw.trans (below_of_grownBy g.g hw.size (by omega))
    replace f1 := f1.k g.g (ap_some (by omega))
    clear f6
    refine wl_nil ?_
    refine rk_seq ?_
    refine rk_region ?_
    refine wl_p (fun _ => o_move rfl) ?_
    refine wl_p (fun _ => o_faddr (s := 49) (i := 0) (off := 0) Try.underlying49 rfl Try.sizeOf22 rfl rfl rfl) ?_
    refine wl_r (o_loadbg Try.isAgg22 rfl f (by rfl)) ?_
    refine wl_p (fun _ => o_len (t := 22) Try.underlying22 rfl) ?_
    refine wl_p (fun _ => o_convi (src := 3) (dst := 5) Try.underlying3 Try.underlying5 rfl) ?_
    rw [u8w (n := items.length) (by omega)]
    refine wl_litB [0, UInt8.ofNat items.length] Try.u8 Try.sizeOf5 Try.zeroValue5 (by rfl) rfl rfl (by rfl) (by rfl) (by rfl) ?_
    rintro A29 w29 f29 b29
    have qf29 := f29.cap
    have s29 := b29.size
    replace hw := hw.trans (b29.mono hw.size)
    replace f1 := f1.u b29
    replace f := f.u b29
    refine wl_appB0 rfl rfl f29.to_Rd (by rfl) (by omega) ?_
    rintro A30 c30 w30 f30 b30
    have qf30 := f30.cap
    have s30 := b30.size
    replace hw := hw.trans (b30.mono hw.size)
    replace f := f.u b30
    replace f1 := f1.u b30
    replace f29 := f29.u b30
    refine wl_p (fun _ => o_assign rfl) ?_
    refine wl_nil ?_
    refine rk_seq ?_
    refine rk_region ?_
    refine wl_p (fun _ => o_faddr (s := 49) (i := 0) (off := 0) Try.underlying49 rfl Try.sizeOf22 rfl rfl rfl) ?_
    refine wl_r (o_loadbg Try.isAgg22 rfl f (by rfl)) ?_
    refine wl_p (fun _ => o_len (t := 22) Try.underlying22 rfl) ?_
    refine wl_p (fun _ => o_move rfl) ?_
    refine wl_nil ?_
    refine rk_block ?_
    refine rk_joinf (fun fb fr w3 => ∃ A' c', fr = [(5, .slice A' (nodeB items kids keys).length c')] ++ fb.drop 1 ∧ OwnH w3 w29.heap.size w3.heap.size A' c' (nodeB items kids keys) ∧ Below w.heap.size w w3) ?_ (fun ks hj => ?_)
    rotate_left
    · refine rk_loopf (fun fb m fr w3 => ∃ (i : Nat) (v : Int) (A' : Option Addr) (bs : By) (c' : Nat), fr = [(34, .int .i64 v), (5, .slice A' bs.length c')] ++ fb ∧ v = i ∧ i ≤ items.length ∧ m = items.length - i ∧ bs = [0, UInt8.ofNat items.length] ++ (items.take i).flatMap itB ∧ bs.length ≤ 2 + 66 * i ∧ OwnH w3 w29.heap.size w3.heap.size A' c' bs ∧ w30.heap.size ≤ w3.heap.size ∧ Below w.heap.size w w3) (n := items.length) (Fr.le_of (by kernel_rfl) (by kernel_rfl) (by repeat' constructor)) ⟨0, _, A30, _, c30, rfl, rfl, by omega, rfl, by simp, by simp, f30, Nat.le_refl _, hw⟩ ?_
      clear hw f30 f f1 f29
      rintro m fr w3 ⟨i, v, A', bs, c', rfl, rfl, hi, rfl, hbs, hbl, fo, hsz, hw⟩
      have shw := hw.size
      first | refine rk_frame (by simp only [List.cons_append, List.nil_append, List.drop_succ_cons, List.drop_zero]; rfl) ?_ | refine wl_frame (by simp only [List.cons_append, List.nil_append, List.drop_succ_cons, List.drop_zero]; rfl) ?_
      refine rk_seq ?_
      refine rk_region ?_
      refine wl_p (fun _ => o_lt rfl rfl) ?_
      refine wl_nil ?_
      refine rk_seq ?_
      refine rk_if rfl (fun h35 => ?_) (fun h35 => ?_)
      · have hil : i < items.length := by omega
        obtain ⟨⟨n1, n2⟩, n3, _⟩ := hW5 i hil
        have n4 := blkB_le (p := items[i].1) (n := 16) n2 (by omega)
        have n5 := blkB_le (p := items[i].2) (n := 32) n3 (by omega)
        refine rk_skip ?_
        refine rk_seq ?_
        refine rk_block ?_
        refine rk_seq ?_
        refine rk_region ?_
        refine wl_p (fun _ => (o_iaddrA (i) Try.underlying22 Try.sizeOf31 rfl rfl rfl (hI.some_ (by omega)) (by omega))) ?_
        refine wl_ldItem rfl hI hw (by omega) ?_
        rintro A137 c137 A237 c237 f37 f37_1 i37 i37_1
        refine wl_allocg [_, _] Try.zeroValue31 (by rfl) ?_
        rintro g8 w8 f8 b8 i8 i8_1
        have s8 := b8.size
        replace hw := hw.trans (b8.mono hw.size)
        replace fo := fo.u b8
        refine wl_storega Try.sizeOf31 rfl rfl (by rfl) (oneCell_of (by rfl)) f8 (by rfl) ?_
        rintro w_2 f g_1 e_2
        have s_1 := g_1.size
        replace hw := hw.trans (below_of_grownBy g_1.g hw.size (by omega))
        replace fo := fo.k g_1.g (ap_some (by omega))
        clear f8
        refine wl_nil ?_
        refine rk_seq ?_
        refine rk_region ?_
        refine wl_p (fun _ => o_move rfl) ?_
        refine wl_p (fun _ => o_faddr (s := 31) (i := 0) (off := 0) Try.underlying31 rfl Try.sizeOf27 rfl rfl rfl) ?_
        refine wl_r (o_loadbg Try.isAgg27 rfl f (by rfl)) ?_
        refine wl_call rfl (C_BlockN _ (f37.u hw) rfl (by omega)) ?_
        rintro v41 w41 ⟨A41, ⟨c41, ⟨rfl, ⟨f41, b41⟩⟩⟩⟩
        have qf41 := f41.cap
        have s41 := b41.size
        replace hw := hw.trans (b41.mono hw.size)
        replace fo := fo.u b41
        replace f := f.u b41
        refine wl_appB Try.u8 rfl fo rfl rfl f41.to_Rd rfl (by omega) (by omega) ?_
        rintro A42 c42 w42 f42 g42 b42 i42
        have qf42 := f42.cap
        have s42 := g42.size
        replace hw := hw.trans (b42.mono (by omega))
        replace f := f.y g42 (by decide)
        replace f41 := f41.k g42.g (fo.ap (by omega))
        clear fo
        refine wl_p (fun _ => o_assign rfl) ?_
        refine wl_nil ?_
        refine rk_region ?_
        refine wl_p (fun _ => o_move rfl) ?_
        refine wl_p (fun _ => o_faddr (s := 31) (i := 1) (off := 1) Try.underlying31 rfl Try.sizeOf27 rfl rfl rfl) ?_
        refine wl_r (o_loadbg Try.isAgg27 rfl f (by rfl)) ?_
        refine wl_call rfl (C_BlockN _ (f37_1.u hw) rfl (by omega)) ?_
        rintro v46 w46 ⟨A46, ⟨c46, ⟨rfl, ⟨f46, b46⟩⟩⟩⟩
        have qf46 := f46.cap
        have s46 := b46.size
        replace hw := hw.trans (b46.mono hw.size)
        replace f41 := f41.u b46
        replace f := f.u b46
        replace f42 := f42.u b46
        refine wl_appB Try.u8 rfl f42 rfl rfl f46.to_Rd rfl (by simp; omega) (by omega) ?_
        rintro A47 c47 w47 f47 g47 b47 i47
        have qf47 := f47.cap
        have s47 := g47.size
        replace hw := hw.trans (b47.mono (by omega))
        replace f := f.y g47 (by decide)
        replace f46 := f46.k g47.g (f42.ap (by omega))
        clear f42
        clear f41
        refine wl_p (fun _ => o_assign rfl) ?_
        refine wl_nil ?_
        refine rk_blk ?_
        refine rk_region ?_
        refine wl_p (fun _ => o_add rfl rfl (by omega) (by omega)) ?_
        refine wl_p (fun _ => o_move rfl) ?_
        refine wl_nil ?_
        exact rk_againf (Fr.le_of (by kernel_rfl) (by kernel_rfl) (by repeat' constructor)) ⟨i + 1, (i : Int) + 1, _, _, _, rfl, by omega, by omega, rfl, by rw [List.take_succ_eq_append_getElem hil]; simp only [hbs, itB, List.flatMap_append, List.flatMap_cons, List.flatMap_nil, List.append_nil, List.append_assoc], by simp only [List.length_append]; omega, f47, by omega, hw⟩ (by omega)
      · refine rk_exit rfl ?_
        have e : bs = nodeB items kids keys := by
          unfold nodeB; rw [if_pos hq, hbs, show i = items.length by omega, List.take_length]
        subst e
        exact rk_tof hj (Fr.le_of (by kernel_rfl) (by kernel_rfl) (by repeat' constructor)) ⟨A', c', rfl, fo, hw⟩
    clear hw f30 f f1 f29
    rintro fr w3 ⟨A', c', rfl, fo, hw⟩
    have shw := hw.size
    first | refine rk_frame (by simp only [List.cons_append, List.nil_append, List.drop_succ_cons, List.drop_zero]; rfl) ?_ | refine wl_frame (by simp only [List.cons_append, List.nil_append, List.drop_succ_cons, List.drop_zero]; rfl) ?_
    refine rk_blk ?_
    refine rk_seq ?_
    refine rk_region ?_
    refine wl_p (fun _ => o_move rfl) ?_
    refine wl_p (fun _ => o_assign rfl) ?_
    refine wl_p (fun _ => o_assign rfl) ?_
    refine wl_nil ?_
    refine ret2 rfl rfl rfl ?_
    exact ⟨A', _, c', _, rfl, fo.base (by omega) (Nat.le_refl _), .inl rfl, ⟨fun _ => hW, fun _ => rfl⟩, fun _ => rfl, fun h => absurd rfl h, hw⟩
  · have hW2 : WholeB items kids keys := by unfold WholeN at hW; rwa [if_neg hq] at hW
    obtain ⟨hW3, hW4, hW5, hW6, hW7, hW8⟩ := hW2
    refine rk_skip ?_
    refine rk_seq ?_
    refine rk_region ?_
    refine wl_p (fun _ => o_assign rfl) ?_
    refine wl_nil ?_
    refine rk_seq ?_
    refine rk_seq ?_
    refine rk_region ?_
    refine wl_r (o_loadag Try.isAgg26 Try.sizeOf26 rfl f1 (by rfl)) ?_
    refine wl_call rfl (C_shapeOfB _ (by omega)) ?_
    rintro v20 w20 ⟨rfl, b20⟩
    have s20 := b20.size
    replace hw := hw.trans (b20.mono hw.size)
    replace f1 := f1.u b20
    refine wl_nil ?_
    refine rk_block ?_
    refine rk_seq ?_
    refine rk_region ?_
    refine wl_p (fun _ => (o_assertNo Try.underlying49 rfl (by simp) Try.zeroValue49)) ?_
    refine wl_p (fun _ => o_ext21 rfl) ?_
    refine wl_p (fun _ => o_ext20 rfl) ?_
    refine wl_nil ?_
    refine rk_false rfl ?_
    refine rk_seq ?_
    refine rk_region ?_
    refine wl_p (fun _ => (o_assertYes Try.underlying51 rfl)) ?_
    refine wl_p (fun _ => o_ext21 rfl) ?_
    refine wl_p (fun _ => o_ext20 rfl) ?_
    refine wl_nil ?_
    refine rk_true rfl ?_
    refine rk_seq ?_
    refine rk_region ?_
    refine wl_allocg [_, _, _] Try.zeroValue51 (by rfl) ?_
    rintro g9 w9 f9 b9 i9 i9_1
    have s9 := b9.size
    replace hw := hw.trans (b9.mono hw.size)
    replace f1 := f1.u b9
    refine wl_storega Try.sizeOf51 rfl rfl (by rfl) (oneCell_of (by rfl)) f9 (by rfl) ?_
    rintro w_1 f g e_1
    have s := g.size
    replace hw := hw.trans (below_of_grownBy g.g hw.size (by omega))
    replace f1 := f1.k g.g (ap_some (by omega))
    clear f9
    refine wl_nil ?_
    refine rk_seq ?_
    refine rk_region ?_
    refine wl_p (fun _ => o_move rfl) ?_
    refine wl_p (fun _ => o_faddr (s := 51) (i := 1) (off := 1) Try.underlying51 rfl Try.sizeOf23 rfl rfl rfl) ?_
    refine wl_r (o_loadbg Try.isAgg23 rfl f (by rfl)) ?_
    refine wl_p (fun _ => o_len (t := 23) Try.underlying23 rfl) ?_
    refine wl_p (fun _ => o_convi (src := 3) (dst := 5) Try.underlying3 Try.underlying5 rfl) ?_
    rw [u8w (n := kids.length) (by omega)]
    refine wl_litB [1, UInt8.ofNat kids.length] Try.u8 Try.sizeOf5 Try.zeroValue5 (by rfl) rfl rfl (by rfl) (by rfl) (by rfl) ?_
    rintro A57 w57 f57 b57
    have qf57 := f57.cap
    have s57 := b57.size
    replace hw := hw.trans (b57.mono hw.size)
    replace f1 := f1.u b57
    replace f := f.u b57
    refine wl_appB0 rfl rfl f57.to_Rd (by rfl) (by omega) ?_
    rintro A58 c58 w58 f58 b58
    have qf58 := f58.cap
    have s58 := b58.size
    replace hw := hw.trans (b58.mono hw.size)
    replace f := f.u b58
    replace f1 := f1.u b58
    replace f57 := f57.u b58
    refine wl_p (fun _ => o_assign rfl) ?_
    refine wl_nil ?_
    refine rk_seq ?_
    refine rk_seq ?_
    refine rk_region ?_
    refine wl_p (fun _ => o_faddr (s := 51) (i := 1) (off := 1) Try.underlying51 rfl Try.sizeOf23 rfl rfl rfl) ?_
    refine wl_r (o_loadbg Try.isAgg23 rfl f (by rfl)) ?_
    refine wl_p (fun _ => o_len (t := 23) Try.underlying23 rfl) ?_
    refine wl_p (fun _ => o_move rfl) ?_
    refine wl_nil ?_
    refine rk_block ?_
    refine rk_joinf (fun fb fr w3 => ∃ A' c' bs, fr = [(5, .slice A' bs.length c')] ++ fb.drop 1 ∧ bs = [1, UInt8.ofNat kids.length] ++ kids.flatMap wB ∧ bs.length ≤ 100 ∧ OwnH w3 w57.heap.size w3.heap.size A' c' bs ∧ w58.heap.size ≤ w3.heap.size ∧ Blk w3 g9 51 [.slice A items.length c, .slice K kids.length e, .slice B keys.length d] ∧ Below w.heap.size w w3) ?_ (fun ks hj => ?_)
    rotate_left
    · refine rk_loopf (fun fb m fr w3 => ∃ (i : Nat) (v : Int) (A' : Option Addr) (bs : By) (c' : Nat), fr = [(62, .int .i64 v), (5, .slice A' bs.length c')] ++ fb ∧ v = i ∧ i ≤ kids.length ∧ m = kids.length - i ∧ bs = [1, UInt8.ofNat kids.length] ++ (kids.take i).flatMap wB ∧ bs.length ≤ 2 + 4 * i ∧ OwnH w3 w57.heap.size w3.heap.size A' c' bs ∧ w58.heap.size ≤ w3.heap.size ∧ Blk w3 g9 51 [.slice A items.length c, .slice K kids.length e, .slice B keys.length d] ∧ Below w.heap.size w w3) (n := kids.length) (Fr.le_of (by kernel_rfl) (by kernel_rfl) (by repeat' constructor)) ⟨0, _, A58, _, c58, rfl, rfl, by omega, rfl, by simp, by simp, f58, Nat.le_refl _, f, hw⟩ ?_
      clear hw f58 f f1 f57
      rintro m fr w3 ⟨i, v, A', bs, c', rfl, rfl, hi, rfl, hbs, hbl, fo, hsz, fs, hw⟩
      have shw := hw.size
      first | refine rk_frame (by simp only [List.cons_append, List.nil_append, List.drop_succ_cons, List.drop_zero]; rfl) ?_ | refine wl_frame (by simp only [List.cons_append, List.nil_append, List.drop_succ_cons, List.drop_zero]; rfl) ?_
      refine rk_seq ?_
      refine rk_region ?_
      refine wl_p (fun _ => o_lt rfl rfl) ?_
      refine wl_nil ?_
      refine rk_seq ?_
      refine rk_if rfl (fun h63 => ?_) (fun h63 => ?_)
      · have hil : i < kids.length := by omega
        obtain ⟨n1, n2, _⟩ := hW7 i hil
        have n3 := wB_len kids[i]
        refine rk_skip ?_
        refine rk_seq ?_
        refine rk_block ?_
        refine rk_seq ?_
        refine rk_region ?_
        refine wl_p (fun _ => (o_iaddrA1 (i) Try.underlying23 Try.sizeOf3 rfl rfl rfl (Reads.some_ hZ.to_Reads (by decide) (by omega)) (by omega))) ?_
        refine wl_r (o_loadZ Try.isAgg3 rfl (hZ.u hw).to_Reads (by omega)) ?_
        refine wl_p (fun _ => o_assign rfl) ?_
        refine wl_nil ?_
        refine rk_region ?_
        refine wl_p (fun _ => o_move rfl) ?_
        refine wl_p (fun _ => o_move rfl) ?_
        refine wl_p (fun _ => o_convu64 (src := 3) (dst := 56) Try.underlying3 Try.underlying56 rfl (by omega) (by omega)) ?_
        refine wl_call rfl (C_WordN _ (by omega) (by omega)) ?_
        rintro v69 w69 ⟨A69, ⟨c69, ⟨rfl, ⟨f69, b69⟩⟩⟩⟩
        have qf69 := f69.cap
        have s69 := b69.size
        replace hw := hw.trans (b69.mono hw.size)
        replace fs := fs.u b69
        replace fo := fo.u b69
        refine wl_appB Try.u8 rfl fo rfl rfl f69.to_Rd rfl (by omega) (by omega) ?_
        rintro A70 c70 w70 f70 g70 b70 i70
        have qf70 := f70.cap
        have s70 := g70.size
        replace hw := hw.trans (b70.mono (by omega))
        replace fs := fs.y g70 (by decide)
        replace f69 := f69.k g70.g (fo.ap (by omega))
        clear fo
        refine wl_p (fun _ => o_assign rfl) ?_
        refine wl_nil ?_
        refine rk_blk ?_
        refine rk_region ?_
        refine wl_p (fun _ => o_add rfl rfl (by omega) (by omega)) ?_
        refine wl_p (fun _ => o_move rfl) ?_
        refine wl_nil ?_
        exact rk_againf (Fr.le_of (by kernel_rfl) (by kernel_rfl) (by repeat' constructor)) ⟨i + 1, (i : Int) + 1, _, _, _, rfl, by omega, by omega, rfl, by rw [List.take_succ_eq_append_getElem hil]; simp only [hbs, List.flatMap_append, List.flatMap_cons, List.flatMap_nil, List.append_nil, List.append_assoc], by simp only [List.length_append]; omega, f70, by omega, fs, hw⟩ (by omega)
      · refine rk_exit rfl ?_
        exact rk_tof hj (Fr.le_of (by kernel_rfl) (by kernel_rfl) (by repeat' constructor)) ⟨A', c', bs, rfl, by rw [hbs, show i = kids.length by omega, List.take_length], by omega, fo, hsz, fs, hw⟩
    clear hw f58 f f1 f57
    rintro fr w3 ⟨A', c', bs, rfl, hbs, hbl, fo, hsz, fs, hw⟩
    have shw := hw.size
    first | refine rk_frame (by simp only [List.cons_append, List.nil_append, List.drop_succ_cons, List.drop_zero]; rfl) ?_ | refine wl_frame (by simp only [List.cons_append, List.nil_append, List.drop_succ_cons, List.drop_zero]; rfl) ?_
    refine rk_seq ?_
    refine rk_region ?_
    refine wl_p (fun _ => o_faddr (s := 51) (i := 2) (off := 2) Try.underlying51 rfl Try.sizeOf24 rfl rfl rfl) ?_
    refine wl_r (o_loadbg Try.isAgg24 rfl fs (by rfl)) ?_
    refine wl_p (fun _ => o_len (t := 24) Try.underlying24 rfl) ?_
    refine wl_p (fun _ => o_move rfl) ?_
    refine wl_nil ?_
    refine rk_block ?_
    refine rk_joinf (fun fb fr w4 => ∃ A' c', fr = [(5, .slice A' (nodeB items kids keys).length c')] ++ fb.drop 1 ∧ OwnH w4 w57.heap.size w4.heap.size A' c' (nodeB items kids keys) ∧ Below w.heap.size w w4) ?_ (fun ks hj => ?_)
    rotate_left
    · refine rk_loopf (fun fb m fr w4 => ∃ (i : Nat) (v : Int) (A' : Option Addr) (bt : By) (c' : Nat), fr = [(75, .int .i64 v), (5, .slice A' bt.length c')] ++ fb ∧ v = i ∧ i ≤ keys.length ∧ m = keys.length - i ∧ bt = bs ++ (keys.take i).flatMap blkB ∧ bt.length ≤ 100 + 25 * i ∧ OwnH w4 w57.heap.size w4.heap.size A' c' bt ∧ w3.heap.size ≤ w4.heap.size ∧ Below w.heap.size w w4) (n := keys.length) (Fr.le_of (by kernel_rfl) (by kernel_rfl) (by repeat' constructor)) ⟨0, _, A', _, c', rfl, rfl, by omega, rfl, by simp, by omega, fo, Nat.le_refl _, hw⟩ ?_
      clear hw fo fs
      rintro m fr w4 ⟨i, v, A', bt, c', rfl, rfl, hi, rfl, hbt, hbl2, fo, hsz2, hw⟩
      have shw2 := hw.size
      first | refine rk_frame (by simp only [List.cons_append, List.nil_append, List.drop_succ_cons, List.drop_zero]; rfl) ?_ | refine wl_frame (by simp only [List.cons_append, List.nil_append, List.drop_succ_cons, List.drop_zero]; rfl) ?_
      refine rk_seq ?_
      refine rk_region ?_
      refine wl_p (fun _ => o_lt rfl rfl) ?_
      refine wl_nil ?_
      refine rk_seq ?_
      refine rk_if rfl (fun h76 => ?_) (fun h76 => ?_)
      · have hil : i < keys.length := by omega
        obtain ⟨⟨n1, n2⟩, _⟩ := hW8 i hil
        have n4 := blkB_le (p := keys[i]) (n := 16) n2 (by omega)
        refine rk_skip ?_
        refine rk_seq ?_
        refine rk_block ?_
        refine rk_seq ?_
        refine rk_region ?_
        refine wl_p (fun _ => (o_iaddrA1 (i) Try.underlying24 Try.sizeOf27 rfl rfl rfl (hK.some_ (by omega)) (by omega))) ?_
        refine wl_ldKy rfl hK hw (by omega) ?_
        rintro A178 c178 f78 i78
        refine wl_p (fun _ => o_assign rfl) ?_
        refine wl_nil ?_
        refine rk_region ?_
        refine wl_p (fun _ => o_move rfl) ?_
        refine wl_p (fun _ => o_move rfl) ?_
        refine wl_call rfl (C_BlockN _ (f78.u hw) rfl (by omega)) ?_
        rintro v81 w81 ⟨A81, ⟨c81, ⟨rfl, ⟨f81, b81⟩⟩⟩⟩
        have qf81 := f81.cap
        have s81 := b81.size
        replace hw := hw.trans (b81.mono hw.size)
        replace fo := fo.u b81
        refine wl_appB Try.u8 rfl fo rfl rfl f81.to_Rd rfl (by omega) (by omega) ?_
        rintro A82 c82 w82 f82 g82 b82 i82
        have qf82 := f82.cap
        have s82 := g82.size
        replace hw := hw.trans (b82.mono (by omega))
        replace f81 := f81.k g82.g (fo.ap (by omega))
        clear fo
        refine wl_p (fun _ => o_assign rfl) ?_
        refine wl_nil ?_
        refine rk_blk ?_
        refine rk_region ?_
        refine wl_p (fun _ => o_add rfl rfl (by omega) (by omega)) ?_
        refine wl_p (fun _ => o_move rfl) ?_
        refine wl_nil ?_
        exact rk_againf (Fr.le_of (by kernel_rfl) (by kernel_rfl) (by repeat' constructor)) ⟨i + 1, (i : Int) + 1, _, _, _, rfl, by omega, by omega, rfl, by rw [List.take_succ_eq_append_getElem hil]; simp only [hbt, List.flatMap_append, List.flatMap_cons, List.flatMap_nil, List.append_nil, List.append_assoc], by simp only [List.length_append]; omega, f82, by omega, hw⟩ (by omega)
      · refine rk_exit rfl ?_
        have e : bt = nodeB items kids keys := by
          unfold nodeB; rw [if_neg hq, hbt, hbs, show i = keys.length by omega, List.take_length]
        subst e
        exact rk_tof hj (Fr.le_of (by kernel_rfl) (by kernel_rfl) (by repeat' constructor)) ⟨A', c', rfl, fo, hw⟩
    clear hw fo fs
    rintro fr w4 ⟨A', c', rfl, fo, hw⟩
    have shw2 := hw.size
    first | refine rk_frame (by simp only [List.cons_append, List.nil_append, List.drop_succ_cons, List.drop_zero]; rfl) ?_ | refine wl_frame (by simp only [List.cons_append, List.nil_append, List.drop_succ_cons, List.drop_zero]; rfl) ?_
    refine rk_blk ?_
    refine rk_seq ?_
    refine rk_region ?_
    refine wl_p (fun _ => o_move rfl) ?_
    refine wl_p (fun _ => o_assign rfl) ?_
    refine wl_p (fun _ => o_assign rfl) ?_
    refine wl_nil ?_
    refine ret2 rfl rfl rfl ?_
    exact ⟨A', _, c', _, rfl, fo.base (by omega) (Nat.le_refl _), .inl rfl, ⟨fun _ => hW, fun _ => rfl⟩, fun _ => rfl, fun h => absurd rfl h, hw⟩

instance (items : List (By × By)) (keys : List By) : Decidable (WholeL items keys) := by unfold WholeL; infer_instance
instance (items : List (By × By)) (kids : List Int) (keys : List By) : Decidable (WholeB items kids keys) := by unfold WholeB; infer_instance
instance (items : List (By × By)) (kids : List Int) (keys : List By) : Decidable (WholeN items kids keys) := by unfold WholeN; infer_instance
theorem KidR.eq {items : List (By × By)} {kids : List Int} {keys : List By} {key : By} {z : Int} (h : KidR items kids keys key z) (hW : WholeN items kids keys) (hk : kids.length ≠ 0) : z = (keys.findIdx fun x => decide (0 < cmpL x key) : Nat) := by
  obtain ⟨k, rfl, h1, h2, h3⟩ := h.1 ⟨hW, hk⟩
  congr 1
  symm
  rcases Nat.lt_or_ge k keys.length with h4 | h4
  · rw [List.findIdx_eq h4]
    exact ⟨by simpa using h3 h4, fun j hj => by have := h2 j (by omega) hj; simp; omega⟩
  · rw [show k = keys.length by omega]
    rw [List.findIdx_eq_length]
    intro x hx
    obtain ⟨j, hj, rfl⟩ := List.getElem_of_mem hx
    have := h2 j hj (by omega)
    simp; omega
section
variable {fn : Func} {F : Ending → World → Prop} {N : Nat} {ks : List K} {ops : Array Oper} {tg : Tags} {l : List Oper} {fr : Fr} {w : World} {ty : TypeId} {pos : String} {aft : Array Edge} {gd : Option (Nat × Bool)} {lo hi : Nat} {A : Option Addr}
theorem Try.rowItem : RowT Try.prog 22 31 (.agg #[.slice none 0 0, .slice none 0 0]) 2 48 := ⟨Try.underlying22, by kernel_rfl, rfl, by omega⟩
theorem Try.rowKey : RowT Try.prog 24 27 (.slice none 0 0) 1 24 := ⟨Try.underlying24, by kernel_rfl, rfl, by omega⟩
def OwnI (w : World) (lo hi : Nat) (A : Option Addr) (c : Nat) (L : List (By × By)) : Prop := OwnS gItem 31 w lo hi A c L
def OwnKy (w : World) (lo hi : Nat) (A : Option Addr) (c : Nat) (L : List By) : Prop := OwnS gBytes 27 w lo hi A c L
theorem OwnI.u {w w' : World} {c : Nat} {L : List (By × By)} (h : OwnI w lo hi A c L) (hb : Below w.heap.size w w') : OwnI w' lo hi A c L := OwnS.u h hb
theorem OwnI.d {c : Nat} {L : List (By × By)} (h : OwnI w lo hi A c L) : OwnI w.drew lo hi A c L := OwnS.d h
theorem OwnI.y {w' : World} {e' : TypeId} {row : Option Nat} {c : Nat} {L : List (By × By)} (h : OwnI w lo hi A c L) (hg : Grew w w' e' row) (hne : e' ∉ 31 :: gItem.tys) : OwnI w' lo hi A c L := OwnS.y h hg hne
theorem OwnI.ap {c lo' hi' : Nat} {L : List (By × By)} (h : OwnI w lo hi A c L) (hd : hi ≤ lo' ∨ hi' ≤ lo) : Ap (blk A) lo' hi' := OwnS.ap h hd
theorem OwnI.cap {c : Nat} {L : List (By × By)} (h : OwnI w lo hi A c L) : L.length ≤ c := OwnS.cap h
theorem OwnI.to_RI {c : Nat} {L : List (By × By)} (h : OwnI w lo hi A c L) : RI w A L := OwnS.to_RSl h
theorem OwnI.nil_ : OwnI w lo hi none 0 [] := OwnS.nil_
theorem OwnKy.u {w w' : World} {c : Nat} {L : List By} (h : OwnKy w lo hi A c L) (hb : Below w.heap.size w w') : OwnKy w' lo hi A c L := OwnS.u h hb
theorem OwnKy.d {c : Nat} {L : List By} (h : OwnKy w lo hi A c L) : OwnKy w.drew lo hi A c L := OwnS.d h
theorem OwnKy.y {w' : World} {e' : TypeId} {row : Option Nat} {c : Nat} {L : List By} (h : OwnKy w lo hi A c L) (hg : Grew w w' e' row) (hne : e' ∉ 27 :: gBytes.tys) : OwnKy w' lo hi A c L := OwnS.y h hg hne
theorem OwnKy.ap {c lo' hi' : Nat} {L : List By} (h : OwnKy w lo hi A c L) (hd : hi ≤ lo' ∨ hi' ≤ lo) : Ap (blk A) lo' hi' := OwnS.ap h hd
theorem OwnKy.cap {c : Nat} {L : List By} (h : OwnKy w lo hi A c L) : L.length ≤ c := OwnS.cap h
theorem OwnKy.to_RKy {c : Nat} {L : List By} (h : OwnKy w lo hi A c L) : RKy w A L := OwnS.to_RSl h
theorem OwnKy.nil_ : OwnKy w lo hi none 0 [] := OwnS.nil_
variable {d : Nat}
--@ rule buildSlice l wl_litI1
theorem wl_litI1 {ps : Array (Nat × Operand)} {xs : List Operand} {A1 A2 : Option Addr} {n1 c1 n2 c2 : Nat} {p1 p2 : By} (hxs : ps.toList.map Prod.snd = xs) (hx : fr.evs xs = some [.agg #[.slice A1 n1 c1, .slice A2 n2 c2]]) (h1 : RdT w A1 p1) (h2 : RdT w A2 p2) (hn1 : n1 = p1.length) (hn2 : n2 = p2.length) (hc1 : p1.length ≤ c1) (hc2 : p2.length ≤ c2) (hm1 : c1 ≤ 4000000000) (hm2 : c2 ≤ 4000000000) (hps : ps = ((List.range' 0 1).zip xs).toArray)
    (hk : ∀ A w', OwnI w' w.heap.size w'.heap.size A 1 [(p1, p2)] → Below w.heap.size w w' → WL Try.prog fn F N ks ops tg.tail l ((d, .slice A 1 1) :: fr) w')
    (ht : tg.loud = true := by rfl) (hg : onG ops fr gd = true := by rfl) (hd : Nat.blt d N = true := by rfl) : WL Try.prog fn F N ks ops tg (⟨some d, .buildSlice 22 1 ps, ty, pos, aft, gd⟩ :: l) fr w := by
  subst hn1; subst hn2
  refine wl_litS (X := gItem) (L := [(p1, p2)]) Try.rowItem Try.sizeOf31 Try.zeroValue31 hxs hps hx rfl rfl (fun i h => ?_) rfl hk ht hg hd
  obtain rfl : i = 0 := by simp at h; omega
  exact ⟨_, rfl, rfl, [.slice A1 p1.length c1], [.slice A2 p2.length c2], rfl, ⟨A1, c1, rfl, h1, hc1, by simp only [maxLen]; omega⟩, ⟨A2, c2, rfl, h2, hc2, by simp only [maxLen]; omega⟩⟩
--@ rule buildSlice l wl_litK2
theorem wl_litK2 {ps : Array (Nat × Operand)} {xs : List Operand} {A1 A2 : Option Addr} {n1 c1 n2 c2 : Nat} {p1 p2 : By} (hxs : ps.toList.map Prod.snd = xs) (hx : fr.evs xs = some [.slice A1 n1 c1, .slice A2 n2 c2]) (h1 : RdT w A1 p1) (h2 : RdT w A2 p2) (hn1 : n1 = p1.length) (hn2 : n2 = p2.length) (hc1 : p1.length ≤ c1) (hc2 : p2.length ≤ c2) (hm1 : c1 ≤ 4000000000) (hm2 : c2 ≤ 4000000000) (hps : ps = ((List.range' 0 2).zip xs).toArray)
    (hk : ∀ A w', OwnKy w' w.heap.size w'.heap.size A 2 [p1, p2] → Below w.heap.size w w' → WL Try.prog fn F N ks ops tg.tail l ((d, .slice A 2 2) :: fr) w')
    (ht : tg.loud = true := by rfl) (hg : onG ops fr gd = true := by rfl) (hd : Nat.blt d N = true := by rfl) : WL Try.prog fn F N ks ops tg (⟨some d, .buildSlice 24 2 ps, ty, pos, aft, gd⟩ :: l) fr w := by
  subst hn1; subst hn2
  refine wl_litS (X := gBytes) (L := [p1, p2]) Try.rowKey Try.sizeOf27 Try.zeroValue27 hxs hps hx rfl rfl (fun i h => ?_) rfl hk ht hg hd
  rcases i with _ | _ | i
  · exact ⟨_, rfl, rfl, A1, c1, rfl, h1, hc1, by simp only [maxLen]; omega⟩
  · exact ⟨_, rfl, rfl, A2, c2, rfl, h2, hc2, by simp only [maxLen]; omega⟩
  · simp at h; omega
end
theorem C_lives11 (w : World) : CallsR Try.prog 5 [] w fun v w' => v = .bool true ∧ Below w.heap.size w w' := by
  refine callsR Try.func5 rfl rfl (by kernel_rfl) rfl ?_
  have hw := Below.refl w.heap.size w
  refine rk_seq ?_
  refine rk_region ?_
  refine wl_p (fun _ => o_assign rfl) ?_
  refine wl_nil ?_
  refine rk_seq ?_
  refine rk_region ?_
  refine wl_litC [97] Try.u8 Try.sizeOf5 Try.zeroValue5 (by rfl) rfl rfl (by rfl) (by rfl) (by rfl) ?_
  rintro A5 w5 f5 b5
  have s5 := b5.size
  replace hw := hw.trans (b5.mono hw.size)
  refine wl_litC [120, 121] Try.u8 Try.sizeOf5 Try.zeroValue5 (by rfl) rfl rfl (by rfl) (by rfl) (by rfl) ?_
  rintro A7 w7 f7 b7
  have s7 := b7.size
  replace hw := hw.trans (b7.mono hw.size)
  replace f5 := f5.u b7
  refine wl_p (fun _ => (o_buildg [_, _] Try.underlying31 Try.zeroValue31 (by rfl) (by rfl) rfl (by rfl) (by rfl) (fun _ => by kernel_rfl))) ?_
  refine wl_litI1 (by rfl) rfl f5 f7 (by rfl) (by rfl) (by simp) (by simp) (by omega) (by omega) (by rfl) ?_
  rintro A10 w10 f10 b10
  have qf10 := f10.cap
  have s10 := b10.size
  replace hw := hw.trans (b10.mono hw.size)
  replace f5 := f5.u b10
  replace f7 := f7.u b10
  refine wl_p (fun _ => (o_buildg [_, _, _] Try.underlying26 Try.zeroValue26 (by rfl) (by rfl) rfl (by rfl) (by rfl) (fun _ => by kernel_rfl))) ?_
  refine wl_call rfl (C_leafBytes _ f10.to_RI (RZ.nil_) (RKy.nil_) (by rfl) (by rfl) (by rfl) (by simp [LightI]) (by simp) (by simp [LightK]) (by simp) (by simp)) ?_
  rintro v12 w12 ⟨A12, ⟨bs12, ⟨c12, ⟨z12, ⟨rfl, ⟨f12, ⟨i12, ⟨i12_1, ⟨i12_2, ⟨i12_3, b12⟩⟩⟩⟩⟩⟩⟩⟩⟩⟩
  have qf12 := f12.cap
  have s12 := b12.size
  replace hw := hw.trans (b12.mono hw.size)
  replace f7 := f7.u b12
  replace f5 := f5.u b12
  replace f10 := f10.u b12
  refine wl_p (fun _ => o_move rfl) ?_
  refine wl_p (fun _ => o_ext20 rfl) ?_
  refine wl_p (fun _ => o_ext21 rfl) ?_
  refine wl_p (fun _ => o_assign rfl) ?_
  refine wl_p (fun _ => o_assign rfl) ?_
  refine wl_nil ?_
  refine rk_seq ?_
  refine rk_region ?_
  refine wl_litZH [1, 2, 3] (by rfl) rfl rfl (by rfl) (by rfl) (by rfl) ?_
  rintro A15 w15 f15 b15
  have qf15 := f15.cap
  have s15 := b15.size
  replace hw := hw.trans (b15.mono hw.size)
  replace f10 := f10.u b15
  replace f5 := f5.u b15
  replace f7 := f7.u b15
  replace f12 := f12.u b15
  refine wl_litC [99] Try.u8 Try.sizeOf5 Try.zeroValue5 (by rfl) rfl rfl (by rfl) (by rfl) (by rfl) ?_
  rintro A16 w16 f16 b16
  have s16 := b16.size
  replace hw := hw.trans (b16.mono hw.size)
  replace f12 := f12.u b16
  replace f7 := f7.u b16
  replace f5 := f5.u b16
  replace f10 := f10.u b16
  replace f15 := f15.u b16
  refine wl_litC [102] Try.u8 Try.sizeOf5 Try.zeroValue5 (by rfl) rfl rfl (by rfl) (by rfl) (by rfl) ?_
  rintro A18 w18 f18 b18
  have s18 := b18.size
  replace hw := hw.trans (b18.mono hw.size)
  replace f15 := f15.u b18
  replace f10 := f10.u b18
  replace f5 := f5.u b18
  replace f7 := f7.u b18
  replace f12 := f12.u b18
  replace f16 := f16.u b18
  refine wl_litK2 (by rfl) rfl f16 f18 (by rfl) (by rfl) (by omega) (by omega) (by omega) (by omega) (by rfl) ?_
  rintro A20 w20 f20 b20
  have qf20 := f20.cap
  have s20 := b20.size
  replace hw := hw.trans (b20.mono hw.size)
  replace f16 := f16.u b20
  replace f12 := f12.u b20
  replace f7 := f7.u b20
  replace f5 := f5.u b20
  replace f10 := f10.u b20
  replace f15 := f15.u b20
  replace f18 := f18.u b20
  refine wl_p (fun _ => (o_buildg [_, _, _] Try.underlying26 Try.zeroValue26 (by rfl) (by rfl) rfl (by rfl) (by rfl) (fun _ => by kernel_rfl))) ?_
  refine wl_allocg [_, _, _] Try.zeroValue26 (by rfl) ?_
  rintro g3 w3 f3 b3 i3 i3_1
  have s3 := b3.size
  replace hw := hw.trans (b3.mono hw.size)
  replace f18 := f18.u b3
  replace f15 := f15.u b3
  replace f10 := f10.u b3
  replace f5 := f5.u b3
  replace f7 := f7.u b3
  replace f12 := f12.u b3
  replace f16 := f16.u b3
  replace f20 := f20.u b3
  refine wl_storega Try.sizeOf26 rfl rfl (by rfl) (oneCell_of (by rfl)) f3 (by rfl) ?_
  rintro w_1 f g e
  have s := g.size
  replace hw := hw.trans (below_of_grownBy g.g hw.size (by omega))
  replace f20 := f20.y g (by decide)
  replace f16 := f16.y g (by decide)
  replace f12 := f12.k g.g (ap_some (by omega))
  replace f7 := f7.y g (by decide)
  replace f5 := f5.y g (by decide)
  replace f10 := f10.y g (by decide)
  replace f15 := f15.k g.g (ap_some (by omega))
  replace f18 := f18.y g (by decide)
  clear f3
  refine wl_nil ?_
  refine rk_seq ?_
  refine rk_region ?_
  refine wl_p (fun _ => o_move rfl) ?_
  refine wl_p (fun _ => o_eq rfl rfl) ?_
  refine wl_p (fun _ => o_move rfl) ?_
  have hW1 : WholeN [([97], [120, 121])] [] [] := by decide
  obtain rfl : z12 = 0 := i12_1.2 hW1
  obtain rfl := i12_2 rfl
  clear i12 i12_1 i12_2 i12_3
  have hW2 : WholeN [] [1, 2, 3] [[99], [102]] := by decide
  refine wl_p (fun _ => o_move rfl) ?_
  refine wl_r (o_strU Try.underlying27 Try.underlying5 Try.underlying9 rfl f12.to_Rd (Below.refl _ _) rfl) ?_
  refine wl_p (fun _ => o_seq rfl rfl) ?_
  refine wl_p (fun _ => o_pick_t rfl rfl) ?_
  refine wl_p (fun _ => o_move rfl) ?_
  refine wl_r (o_loadag Try.isAgg26 Try.sizeOf26 rfl f (by rfl)) ?_
  refine wl_litC [98] Try.u8 Try.sizeOf5 Try.zeroValue5 (by rfl) rfl rfl (by rfl) (by rfl) (by rfl) ?_
  rintro A31 w31 f31 b31
  have s31 := b31.size
  replace hw := hw.trans (b31.mono hw.size)
  replace f12 := f12.u b31
  replace f18 := f18.u b31
  replace f15 := f15.u b31
  replace f10 := f10.u b31
  replace f5 := f5.u b31
  replace f7 := f7.u b31
  replace f16 := f16.u b31
  replace f20 := f20.u b31
  replace f := f.u b31
  refine wl_call rfl (C_leafKid _ (RI.nil_) f15.to_RZ f20.to_RKy f31.to_Rd (by rfl) (by rfl) (by rfl) (by rfl) (by simp [LightI]) (by omega) (by simp [LightK]) (by decide) (by omega) (by simp)) ?_
  rintro v33 w33 ⟨z33, ⟨rfl, ⟨i33, b33⟩⟩⟩
  have s33 := b33.size
  replace hw := hw.trans (b33.mono hw.size)
  replace f := f.u b33
  replace f20 := f20.u b33
  replace f16 := f16.u b33
  replace f7 := f7.u b33
  replace f5 := f5.u b33
  replace f10 := f10.u b33
  replace f15 := f15.u b33
  replace f18 := f18.u b33
  replace f12 := f12.u b33
  replace f31 := f31.u b33
  refine wl_p (fun _ => o_eq rfl rfl) ?_
  refine wl_p (fun _ => o_pick_t rfl rfl) ?_
  refine wl_p (fun _ => o_move rfl) ?_
  obtain rfl : z33 = 0 := (i33.eq hW2 (by decide)).trans (by decide)
  refine wl_r (o_loadag Try.isAgg26 Try.sizeOf26 rfl f (by rfl)) ?_
  refine wl_litC [99] Try.u8 Try.sizeOf5 Try.zeroValue5 (by rfl) rfl rfl (by rfl) (by rfl) (by rfl) ?_
  rintro A38 w38 f38 b38
  have s38 := b38.size
  replace hw := hw.trans (b38.mono hw.size)
  replace f31 := f31.u b38
  replace f12 := f12.u b38
  replace f18 := f18.u b38
  replace f15 := f15.u b38
  replace f10 := f10.u b38
  replace f5 := f5.u b38
  replace f7 := f7.u b38
  replace f16 := f16.u b38
  replace f20 := f20.u b38
  replace f := f.u b38
  refine wl_call rfl (C_leafKid _ (RI.nil_) f15.to_RZ f20.to_RKy f38.to_Rd (by rfl) (by rfl) (by rfl) (by rfl) (by simp [LightI]) (by omega) (by simp [LightK]) (by decide) (by omega) (by simp)) ?_
  rintro v40 w40 ⟨z40, ⟨rfl, ⟨i40, b40⟩⟩⟩
  have s40 := b40.size
  replace hw := hw.trans (b40.mono hw.size)
  replace f := f.u b40
  replace f20 := f20.u b40
  replace f16 := f16.u b40
  replace f7 := f7.u b40
  replace f5 := f5.u b40
  replace f10 := f10.u b40
  replace f15 := f15.u b40
  replace f18 := f18.u b40
  replace f12 := f12.u b40
  replace f31 := f31.u b40
  replace f38 := f38.u b40
  refine wl_p (fun _ => o_eq rfl rfl) ?_
  refine wl_p (fun _ => o_pick_t rfl rfl) ?_
  refine wl_p (fun _ => o_move rfl) ?_
  obtain rfl : z40 = 1 := (i40.eq hW2 (by decide)).trans (by decide)
  refine wl_r (o_loadag Try.isAgg26 Try.sizeOf26 rfl f (by rfl)) ?_
  refine wl_litC [101] Try.u8 Try.sizeOf5 Try.zeroValue5 (by rfl) rfl rfl (by rfl) (by rfl) (by rfl) ?_
  rintro A45 w45 f45 b45
  have s45 := b45.size
  replace hw := hw.trans (b45.mono hw.size)
  replace f38 := f38.u b45
  replace f31 := f31.u b45
  replace f12 := f12.u b45
  replace f18 := f18.u b45
  replace f15 := f15.u b45
  replace f10 := f10.u b45
  replace f5 := f5.u b45
  replace f7 := f7.u b45
  replace f16 := f16.u b45
  replace f20 := f20.u b45
  replace f := f.u b45
  refine wl_call rfl (C_leafKid _ (RI.nil_) f15.to_RZ f20.to_RKy f45.to_Rd (by rfl) (by rfl) (by rfl) (by rfl) (by simp [LightI]) (by omega) (by simp [LightK]) (by decide) (by omega) (by simp)) ?_
  rintro v47 w47 ⟨z47, ⟨rfl, ⟨i47, b47⟩⟩⟩
  have s47 := b47.size
  replace hw := hw.trans (b47.mono hw.size)
  replace f := f.u b47
  replace f20 := f20.u b47
  replace f16 := f16.u b47
  replace f7 := f7.u b47
  replace f5 := f5.u b47
  replace f10 := f10.u b47
  replace f15 := f15.u b47
  replace f18 := f18.u b47
  replace f12 := f12.u b47
  replace f31 := f31.u b47
  replace f38 := f38.u b47
  replace f45 := f45.u b47
  refine wl_p (fun _ => o_eq rfl rfl) ?_
  refine wl_p (fun _ => o_pick_t rfl rfl) ?_
  refine wl_p (fun _ => o_move rfl) ?_
  obtain rfl : z47 = 1 := (i47.eq hW2 (by decide)).trans (by decide)
  refine wl_r (o_loadag Try.isAgg26 Try.sizeOf26 rfl f (by rfl)) ?_
  refine wl_litC [122] Try.u8 Try.sizeOf5 Try.zeroValue5 (by rfl) rfl rfl (by rfl) (by rfl) (by rfl) ?_
  rintro A52 w52 f52 b52
  have s52 := b52.size
  replace hw := hw.trans (b52.mono hw.size)
  replace f45 := f45.u b52
  replace f38 := f38.u b52
  replace f31 := f31.u b52
  replace f12 := f12.u b52
  replace f18 := f18.u b52
  replace f15 := f15.u b52
  replace f10 := f10.u b52
  replace f5 := f5.u b52
  replace f7 := f7.u b52
  replace f16 := f16.u b52
  replace f20 := f20.u b52
  replace f := f.u b52
  refine wl_call rfl (C_leafKid _ (RI.nil_) f15.to_RZ f20.to_RKy f52.to_Rd (by rfl) (by rfl) (by rfl) (by rfl) (by simp [LightI]) (by omega) (by simp [LightK]) (by decide) (by omega) (by simp)) ?_
  rintro v54 w54 ⟨z54, ⟨rfl, ⟨i54, b54⟩⟩⟩
  have s54 := b54.size
  replace hw := hw.trans (b54.mono hw.size)
  replace f := f.u b54
  replace f20 := f20.u b54
  replace f16 := f16.u b54
  replace f7 := f7.u b54
  replace f5 := f5.u b54
  replace f10 := f10.u b54
  replace f15 := f15.u b54
  replace f18 := f18.u b54
  replace f12 := f12.u b54
  replace f31 := f31.u b54
  replace f38 := f38.u b54
  replace f45 := f45.u b54
  replace f52 := f52.u b54
  refine wl_p (fun _ => o_eq rfl rfl) ?_
  refine wl_p (fun _ => o_pick_t rfl rfl) ?_
  refine wl_p (fun _ => o_assign rfl) ?_
  refine wl_nil ?_
  obtain rfl : z54 = 2 := (i54.eq hW2 (by decide)).trans (by decide)
  refine ret1 rfl rfl ?_
  exact ⟨rfl, hw⟩
end Go.Proofs.Ytchcpnfafgiifaa
/-
  Bytes compared as strings.
-/
namespace Go.Proofs.Ytchcpnfafgiifaa
open Go.RowKit
section
variable {N : Nat} {fr : Fr} {w w0 : World} {ty : TypeId} {x : Operand}
--@ rule convert r o_strS
theorem o_strS {A : Option Addr} {n c : Nat} {l : List UInt8} (hx : fr.ev x = some (.slice A n c)) (hr : Rd w0 A l) (hb : Below w0.heap.size w0 w) (hn : n = l.length) :
    OpV Try.prog N fr w (.convert 27 9 x) ty (.string ⟨l.toArray⟩) w := o_strU Try.underlying27 Try.underlying5 Try.underlying9 hx hr hb hn
end
theorem C_bEqual {A B : Option Addr} {a b : List UInt8} {n m c d : Nat} (w : World) (hA : Rd w A a) (hB : Rd w B b) (hn : n = a.length) (hm : m = b.length) :
    CallsR Try.prog 32 [.slice A n c, .slice B m d] w fun v w' => v = .bool (decide (a = b)) ∧ Below w.heap.size w w' := by
  subst hn; subst hm
  refine callsR Try.func32 rfl rfl (by kernel_rfl) rfl ?_
  have hw := Below.refl w.heap.size w
  refine rk_seq ?_
  refine rk_region ?_
  refine wl_p (fun _ => o_assign rfl) ?_
  refine wl_nil ?_
  refine rk_seq ?_
  refine rk_region ?_
  refine wl_p (fun _ => o_move rfl) ?_
  refine wl_r (o_strU Try.underlying27 Try.underlying5 Try.underlying9 rfl hA hw rfl) ?_
  refine wl_p (fun _ => o_move rfl) ?_
  refine wl_r (o_strU Try.underlying27 Try.underlying5 Try.underlying9 rfl hB hw rfl) ?_
  refine wl_p (fun _ => o_seq rfl rfl) ?_
  refine wl_p (fun _ => o_assign rfl) ?_
  refine wl_nil ?_
  refine ret1 rfl rfl ?_
  exact ⟨rfl, hw⟩
end Go.Proofs.Ytchcpnfafgiifaa
/-
  Walks of package leaf: whether two nodes are the same.
-/
namespace Go.Proofs.Ytchcpnfafgiifaa
open Go.RowKit
theorem C_sameItem {A1 A2 B1 B2 : Option Addr} {a1 a2 b1 b2 : By} {c1 c2 d1 d2 n1 n2 m1 m2 : Nat} (w : World) (h1 : Rd w A1 a1) (h2 : Rd w A2 a2) (h3 : Rd w B1 b1) (h4 : Rd w B2 b2) (e1 : n1 = a1.length) (e2 : n2 = a2.length) (e3 : m1 = b1.length) (e4 : m2 = b2.length) :
    CallsR Try.prog 29 [.agg #[.slice A1 n1 c1, .slice A2 n2 c2], .agg #[.slice B1 m1 d1, .slice B2 m2 d2]] w fun v w' => v = .bool (decide ((a1, a2) = (b1, b2))) ∧ Below w.heap.size w w' := by
  subst e1; subst e2; subst e3; subst e4
  refine callsR Try.func29 rfl rfl (by kernel_rfl) rfl ?_
  have hw := Below.refl w.heap.size w
  by_cases ha : a1 = b1
  · refine rk_seq ?_
    refine rk_region ?_
    refine wl_boxg [_, _] rfl (by rfl) ?_
    rintro g2 w2 f2 b2_1 i2 i2_1
    have s2 := b2_1.size
    replace hw := hw.trans (b2_1.mono hw.size)
    refine wl_boxg [_, _] rfl (by rfl) ?_
    rintro g3 w3 f3 b3 i3 i3_1
    have s3 := b3.size
    replace hw := hw.trans (b3.mono hw.size)
    replace f2 := f2.u b3
    refine wl_p (fun _ => o_assign rfl) ?_
    refine wl_nil ?_
    refine rk_seq ?_
    refine rk_region ?_
    refine wl_p (fun _ => o_faddr (s := 31) (i := 0) (off := 0) Try.underlying31 rfl Try.sizeOf27 rfl rfl rfl) ?_
    refine wl_r (o_loadbg Try.isAgg27 rfl f2 (by rfl)) ?_
    refine wl_p (fun _ => o_faddr (s := 31) (i := 0) (off := 0) Try.underlying31 rfl Try.sizeOf27 rfl rfl rfl) ?_
    refine wl_r (o_loadbg Try.isAgg27 rfl f3 (by rfl)) ?_
    refine wl_call rfl (C_bEqual _ (h1.u hw) (h3.u hw) rfl rfl) ?_
    rintro v9 w9 ⟨rfl, b9⟩
    have s9 := b9.size
    replace hw := hw.trans (b9.mono hw.size)
    replace f2 := f2.u b9
    replace f3 := f3.u b9
    refine wl_p (fun _ => o_move rfl) ?_
    refine wl_know 10 true rfl (decide_eq_true (by omega)) ?_
    refine wl_p (fun _ => o_faddr (s := 31) (i := 1) (off := 1) Try.underlying31 rfl Try.sizeOf27 rfl rfl rfl) ?_
    refine wl_r (o_loadbg Try.isAgg27 rfl f2 (by rfl)) ?_
    refine wl_p (fun _ => o_faddr (s := 31) (i := 1) (off := 1) Try.underlying31 rfl Try.sizeOf27 rfl rfl rfl) ?_
    refine wl_r (o_loadbg Try.isAgg27 rfl f3 (by rfl)) ?_
    refine wl_call rfl (C_bEqual _ (h2.u hw) (h4.u hw) rfl rfl) ?_
    rintro v15 w15 ⟨rfl, b15⟩
    have s15 := b15.size
    replace hw := hw.trans (b15.mono hw.size)
    replace f3 := f3.u b15
    replace f2 := f2.u b15
    refine wl_p (fun _ => o_pick_t rfl rfl) ?_
    refine wl_p (fun _ => o_assign rfl) ?_
    refine wl_nil ?_
    refine ret1 rfl rfl ?_
    exact ⟨by simp [ha], hw⟩
  · refine rk_seq ?_
    refine rk_region ?_
    refine wl_boxg [_, _] rfl (by rfl) ?_
    rintro g2 w2 f2 b2_1 i2 i2_1
    have s2 := b2_1.size
    replace hw := hw.trans (b2_1.mono hw.size)
    refine wl_boxg [_, _] rfl (by rfl) ?_
    rintro g3 w3 f3 b3 i3 i3_1
    have s3 := b3.size
    replace hw := hw.trans (b3.mono hw.size)
    replace f2 := f2.u b3
    refine wl_p (fun _ => o_assign rfl) ?_
    refine wl_nil ?_
    refine rk_seq ?_
    refine rk_region ?_
    refine wl_p (fun _ => o_faddr (s := 31) (i := 0) (off := 0) Try.underlying31 rfl Try.sizeOf27 rfl rfl rfl) ?_
    refine wl_r (o_loadbg Try.isAgg27 rfl f2 (by rfl)) ?_
    refine wl_p (fun _ => o_faddr (s := 31) (i := 0) (off := 0) Try.underlying31 rfl Try.sizeOf27 rfl rfl rfl) ?_
    refine wl_r (o_loadbg Try.isAgg27 rfl f3 (by rfl)) ?_
    refine wl_call rfl (C_bEqual _ (h1.u hw) (h3.u hw) rfl rfl) ?_
    rintro v9 w9 ⟨rfl, b9⟩
    have s9 := b9.size
    replace hw := hw.trans (b9.mono hw.size)
    replace f2 := f2.u b9
    replace f3 := f3.u b9
    refine wl_p (fun _ => o_move rfl) ?_
    refine wl_know 10 false rfl (decide_eq_false (by omega)) ?_
    refine wl_off ?_
    refine wl_off ?_
    refine wl_off ?_
    refine wl_off ?_
    refine wl_off ?_
    refine wl_p (fun _ => o_pick_f rfl rfl) ?_
    refine wl_p (fun _ => o_assign rfl) ?_
    refine wl_nil ?_
    refine ret1 rfl rfl ?_
    exact ⟨by simp [ha], hw⟩
theorem C_EqualFuncI {A B : Option Addr} {L M : List (By × By)} {n m c d : Nat} (w : World) (hA : RI w A L) (hB : RI w B M) (hn : n = L.length) (hm : m = M.length) (hl : L.length ≤ 4000000) (hl2 : M.length ≤ 4000000) :
    CallsR Try.prog 28 [.slice A n c, .slice B m d, .func (.func 29) #[] #[]] w fun v w' => v = .bool (decide (L = M)) ∧ Below w.heap.size w w' := by
  subst hn; subst hm
  refine callsR Try.func28 rfl rfl (by kernel_rfl) rfl ?_
  have hw := Below.refl w.heap.size w
  refine rk_seq ?_
  refine rk_region ?_
  refine wl_p (fun _ => o_assign rfl) ?_
  refine wl_nil ?_
  refine rk_seq ?_
  refine rk_seq ?_
  refine rk_region ?_
  refine wl_p (fun _ => o_move rfl) ?_
  refine wl_p (fun _ => o_len (t := 22) Try.underlying22 rfl) ?_
  refine wl_p (fun _ => o_move rfl) ?_
  refine wl_p (fun _ => o_len (t := 22) Try.underlying22 rfl) ?_
  refine wl_p (fun _ => o_ne rfl rfl) ?_
  refine wl_nil ?_
  refine rk_if rfl (fun h14 => ?_) (fun h14 => ?_)
  · refine rk_seq ?_
    refine rk_region ?_
    refine wl_p (fun _ => o_assign rfl) ?_
    refine wl_nil ?_
    refine ret1 rfl rfl ?_
    exact ⟨by rw [decide_eq_false (fun e : L = M => h14 (by rw [e]))], hw⟩
  refine rk_skip ?_
  refine rk_seq ?_
  refine rk_seq ?_
  refine rk_region ?_
  refine wl_p (fun _ => o_move rfl) ?_
  refine wl_p (fun _ => o_len (t := 22) Try.underlying22 rfl) ?_
  refine wl_p (fun _ => o_move rfl) ?_
  refine wl_nil ?_
  refine rk_block ?_
  refine rk_joinf (fun fb fr w2 => fr = [] ++ fb.drop 1 ∧ L = M ∧ Below w.heap.size w w2) ?_ (fun ks hj => ?_)
  rotate_left
  · refine rk_loopf (fun fb m fr w2 => ∃ (i : Nat) (v : Int), fr = [(17, .int .i64 v)] ++ fb ∧ v = i ∧ i ≤ L.length ∧ m = L.length - i ∧ L.take i = M.take i ∧ Below w.heap.size w w2) (n := L.length) (Fr.le_of (by kernel_rfl) (by kernel_rfl) (by repeat' constructor)) ⟨0, _, rfl, rfl, by omega, rfl, rfl, hw⟩ ?_
    clear hw
    rintro m fr w2 ⟨i, v, rfl, rfl, hi, rfl, ht, hw⟩
    have shw := hw.size
    first | refine rk_frame (by simp only [List.cons_append, List.nil_append, List.drop_succ_cons, List.drop_zero]; rfl) ?_ | refine wl_frame (by simp only [List.cons_append, List.nil_append, List.drop_succ_cons, List.drop_zero]; rfl) ?_
    refine rk_seq ?_
    refine rk_region ?_
    refine wl_p (fun _ => o_lt rfl rfl) ?_
    refine wl_nil ?_
    refine rk_seq ?_
    refine rk_if rfl (fun h18 => ?_) (fun h18 => ?_)
    · have hiL : i < L.length := by omega
      have hiM : i < M.length := by omega
      refine rk_skip ?_
      refine rk_seq ?_
      refine rk_block ?_
      refine rk_seq ?_
      refine rk_region ?_
      refine wl_p (fun _ => o_move rfl) ?_
      refine wl_p (fun _ => (o_iaddrA (i) Try.underlying22 Try.sizeOf31 rfl rfl rfl (hA.some_ (by omega)) (by omega))) ?_
      refine wl_ldItem rfl hA hw (by omega) ?_
      rintro A121 c121 A221 c221 f21 f21_1 i21 i21_1
      refine wl_allocg [_, _] Try.zeroValue31 (by rfl) ?_
      rintro g8 w8 f8 b8 i8 i8_1
      have s8 := b8.size
      replace hw := hw.trans (b8.mono hw.size)
      refine wl_p (fun _ => o_assign rfl) ?_
      refine wl_storega Try.sizeOf31 rfl rfl (by rfl) (oneCell_of (by rfl)) f8 (by rfl) ?_
      rintro w_1 f g e
      have s := g.size
      replace hw := hw.trans (below_of_grownBy g.g hw.size (by omega))
      clear f8
      refine wl_nil ?_
      refine rk_seq ?_
      refine rk_region ?_
      refine wl_p (fun _ => o_move rfl) ?_
      refine wl_p (fun _ => o_move rfl) ?_
      refine wl_p (fun _ => (o_iaddrA (i) Try.underlying22 Try.sizeOf31 rfl rfl rfl (hB.some_ (by omega)) (by omega))) ?_
      refine wl_ldItem rfl hB hw (by omega) ?_
      rintro A125 c125 A225 c225 f25 f25_1 i25 i25_1
      refine wl_allocg [_, _] Try.zeroValue31 (by rfl) ?_
      rintro g9 w9 f9 b9 i9 i9_1
      have s9 := b9.size
      replace hw := hw.trans (b9.mono hw.size)
      replace f := f.u b9
      refine wl_storega Try.sizeOf31 rfl rfl (by rfl) (oneCell_of (by rfl)) f9 (by rfl) ?_
      rintro w_2 f_1 g_1 e_1
      have s_1 := g_1.size
      replace hw := hw.trans (below_of_grownBy g_1.g hw.size (by omega))
      replace f := f.k g_1.g (ap_some (by omega))
      clear f9
      refine wl_nil ?_
      refine rk_seq ?_
      refine rk_region ?_
      refine wl_p (fun _ => o_move rfl) ?_
      refine wl_r (o_loadag Try.isAgg31 Try.sizeOf31 rfl f (by rfl)) ?_
      refine wl_r (o_loadag Try.isAgg31 Try.sizeOf31 rfl f_1 (by rfl)) ?_
      refine wl_callf (xs := [_, _]) (cs := []) rfl rfl (C_sameItem _ (f21.below hw) (f21_1.below hw) (f25.below hw) (f25_1.below hw) rfl rfl rfl rfl) ?_
      rintro _ w29 ⟨rfl, b29⟩
      have sb29 := b29.size
      replace hw := hw.trans (b29.mono hw.size)
      replace f := f.u b29
      replace f_1 := f_1.u b29
      by_cases he : (L[i].1, L[i].2) = (M[i].1, M[i].2)
      · rw [decide_eq_true he]
        refine wl_p (fun _ => o_not rfl) ?_
        refine wl_nil ?_
        refine rk_false rfl ?_
        refine rk_skip ?_
        refine rk_blk ?_
        refine rk_region ?_
        refine wl_p (fun _ => o_add rfl rfl (by omega) (by omega)) ?_
        refine wl_p (fun _ => o_move rfl) ?_
        refine wl_nil ?_
        exact rk_againf (Fr.le_of (by kernel_rfl) (by kernel_rfl) (by repeat' constructor)) ⟨i + 1, (i : Int) + 1, rfl, by omega, by omega, rfl, by rw [List.take_succ_eq_append_getElem hiL, List.take_succ_eq_append_getElem hiM, ht]; exact congrArg (fun x => M.take i ++ [x]) he, hw⟩ (by omega)
      · rw [decide_eq_false he]
        refine wl_p (fun _ => o_not rfl) ?_
        refine wl_nil ?_
        refine rk_true rfl ?_
        refine rk_seq ?_
        refine rk_region ?_
        refine wl_p (fun _ => o_assign rfl) ?_
        refine wl_nil ?_
        refine ret1 rfl rfl ?_
        exact ⟨by rw [decide_eq_false (fun e : L = M => he (by subst e; rfl))], hw⟩
    · refine rk_exit rfl ?_
      have e : L = M := by
        rw [List.take_of_length_le (by omega), List.take_of_length_le (by omega)] at ht
        exact ht
      exact rk_tof hj (Fr.le_of (by kernel_rfl) (by kernel_rfl) (by repeat' constructor)) ⟨rfl, e, hw⟩
  clear hw
  rintro fr w2 ⟨rfl, e, hw⟩
  first | refine rk_frame (by simp only [List.cons_append, List.nil_append, List.drop_succ_cons, List.drop_zero]; rfl) ?_ | refine wl_frame (by simp only [List.cons_append, List.nil_append, List.drop_succ_cons, List.drop_zero]; rfl) ?_
  refine rk_seq ?_
  refine rk_region ?_
  refine wl_p (fun _ => o_assign rfl) ?_
  refine wl_nil ?_
  refine ret1 rfl rfl ?_
  exact ⟨by rw [decide_eq_true e], hw⟩
theorem C_EqualFuncK {A B : Option Addr} {L M : List By} {n m c d : Nat} (w : World) (hA : RKy w A L) (hB : RKy w B M) (hn : n = L.length) (hm : m = M.length) (hl : L.length ≤ 4000000) (hl2 : M.length ≤ 4000000) :
    CallsR Try.prog 31 [.slice A n c, .slice B m d, .func (.func 32) #[] #[]] w fun v w' => v = .bool (decide (L = M)) ∧ Below w.heap.size w w' := by
  subst hn; subst hm
  refine callsR Try.func31 rfl rfl (by kernel_rfl) rfl ?_
  have hw := Below.refl w.heap.size w
  refine rk_seq ?_
  refine rk_region ?_
  refine wl_p (fun _ => o_assign rfl) ?_
  refine wl_nil ?_
  refine rk_seq ?_
  refine rk_seq ?_
  refine rk_region ?_
  refine wl_p (fun _ => o_move rfl) ?_
  refine wl_p (fun _ => o_len (t := 24) Try.underlying24 rfl) ?_
  refine wl_p (fun _ => o_move rfl) ?_
  refine wl_p (fun _ => o_len (t := 24) Try.underlying24 rfl) ?_
  refine wl_p (fun _ => o_ne rfl rfl) ?_
  refine wl_nil ?_
  refine rk_if rfl (fun h14 => ?_) (fun h14 => ?_)
  · refine rk_seq ?_
    refine rk_region ?_
    refine wl_p (fun _ => o_assign rfl) ?_
    refine wl_nil ?_
    refine ret1 rfl rfl ?_
    exact ⟨by rw [decide_eq_false (fun e : L = M => h14 (by rw [e]))], hw⟩
  refine rk_skip ?_
  refine rk_seq ?_
  refine rk_seq ?_
  refine rk_region ?_
  refine wl_p (fun _ => o_move rfl) ?_
  refine wl_p (fun _ => o_len (t := 24) Try.underlying24 rfl) ?_
  refine wl_p (fun _ => o_move rfl) ?_
  refine wl_nil ?_
  refine rk_block ?_
  refine rk_joinf (fun fb fr w2 => fr = [] ++ fb.drop 1 ∧ L = M ∧ Below w.heap.size w w2) ?_ (fun ks hj => ?_)
  rotate_left
  · refine rk_loopf (fun fb m fr w2 => ∃ (i : Nat) (v : Int), fr = [(17, .int .i64 v)] ++ fb ∧ v = i ∧ i ≤ L.length ∧ m = L.length - i ∧ L.take i = M.take i ∧ Below w.heap.size w w2) (n := L.length) (Fr.le_of (by kernel_rfl) (by kernel_rfl) (by repeat' constructor)) ⟨0, _, rfl, rfl, by omega, rfl, rfl, hw⟩ ?_
    clear hw
    rintro m fr w2 ⟨i, v, rfl, rfl, hi, rfl, ht, hw⟩
    have shw := hw.size
    first | refine rk_frame (by simp only [List.cons_append, List.nil_append, List.drop_succ_cons, List.drop_zero]; rfl) ?_ | refine wl_frame (by simp only [List.cons_append, List.nil_append, List.drop_succ_cons, List.drop_zero]; rfl) ?_
    refine rk_seq ?_
    refine rk_region ?_
    refine wl_p (fun _ => o_lt rfl rfl) ?_
    refine wl_nil ?_
    refine rk_seq ?_
    refine rk_if rfl (fun h18 => ?_) (fun h18 => ?_)
    · have hiL : i < L.length := by omega
      have hiM : i < M.length := by omega
      refine rk_skip ?_
      refine rk_seq ?_
      refine rk_block ?_
      refine rk_seq ?_
      refine rk_region ?_
      refine wl_p (fun _ => o_move rfl) ?_
      refine wl_p (fun _ => (o_iaddrA1 (i) Try.underlying24 Try.sizeOf27 rfl rfl rfl (hA.some_ (by omega)) (by omega))) ?_
      refine wl_ldKy rfl hA hw (by omega) ?_
      rintro A121 c121 f21 i21
      refine wl_p (fun _ => o_assign rfl) ?_
      refine wl_p (fun _ => o_assign rfl) ?_
      refine wl_nil ?_
      refine rk_seq ?_
      refine rk_region ?_
      refine wl_p (fun _ => o_move rfl) ?_
      refine wl_p (fun _ => o_move rfl) ?_
      refine wl_p (fun _ => (o_iaddrA1 (i) Try.underlying24 Try.sizeOf27 rfl rfl rfl (hB.some_ (by omega)) (by omega))) ?_
      refine wl_ldKy rfl hB hw (by omega) ?_
      rintro A125 c125 f25 i25
      refine wl_p (fun _ => o_assign rfl) ?_
      refine wl_nil ?_
      refine rk_seq ?_
      refine rk_region ?_
      refine wl_p (fun _ => o_move rfl) ?_
      refine wl_p (fun _ => o_move rfl) ?_
      refine wl_p (fun _ => o_move rfl) ?_
      refine wl_callf (xs := [_, _]) (cs := []) rfl rfl (C_bEqual _ (f21.below hw) (f25.below hw) rfl rfl) ?_
      rintro _ w29 ⟨rfl, b29⟩
      have sb29 := b29.size
      replace hw := hw.trans (b29.mono hw.size)
      by_cases he : L[i] = M[i]
      · rw [decide_eq_true he]
        refine wl_p (fun _ => o_not rfl) ?_
        refine wl_nil ?_
        refine rk_false rfl ?_
        refine rk_skip ?_
        refine rk_blk ?_
        refine rk_region ?_
        refine wl_p (fun _ => o_add rfl rfl (by omega) (by omega)) ?_
        refine wl_p (fun _ => o_move rfl) ?_
        refine wl_nil ?_
        exact rk_againf (Fr.le_of (by kernel_rfl) (by kernel_rfl) (by repeat' constructor)) ⟨i + 1, (i : Int) + 1, rfl, by omega, by omega, rfl, by rw [List.take_succ_eq_append_getElem hiL, List.take_succ_eq_append_getElem hiM, ht, he], hw⟩ (by omega)
      · rw [decide_eq_false he]
        refine wl_p (fun _ => o_not rfl) ?_
        refine wl_nil ?_
        refine rk_true rfl ?_
        refine rk_seq ?_
        refine rk_region ?_
        refine wl_p (fun _ => o_assign rfl) ?_
        refine wl_nil ?_
        refine ret1 rfl rfl ?_
        exact ⟨by rw [decide_eq_false (fun e : L = M => he (by subst e; rfl))], hw⟩
    · refine rk_exit rfl ?_
      have e : L = M := by
        rw [List.take_of_length_le (by omega), List.take_of_length_le (by omega)] at ht
        exact ht
      exact rk_tof hj (Fr.le_of (by kernel_rfl) (by kernel_rfl) (by repeat' constructor)) ⟨rfl, e, hw⟩
  clear hw
  rintro fr w2 ⟨rfl, e, hw⟩
  first | refine rk_frame (by simp only [List.cons_append, List.nil_append, List.drop_succ_cons, List.drop_zero]; rfl) ?_ | refine wl_frame (by simp only [List.cons_append, List.nil_append, List.drop_succ_cons, List.drop_zero]; rfl) ?_
  refine rk_seq ?_
  refine rk_region ?_
  refine wl_p (fun _ => o_assign rfl) ?_
  refine wl_nil ?_
  refine ret1 rfl rfl ?_
  exact ⟨by rw [decide_eq_true e], hw⟩
end Go.Proofs.Ytchcpnfafgiifaa
/-
  A change of nothing but what lies in the blocks from lo to hi. No function of the program is named here.
-/
namespace Go.Proofs.Ytchcpnfafgiifaa
open Go.RowKit
/-- What was there is there still, but for the blocks from lo to hi. -/
structure Chg (lo hi : Nat) (w w' : World) : Prop where
  os : w'.os = w.os
  tape : w'.tape = w.tape
  output : w'.output = w.output
  size : w.heap.size ≤ w'.heap.size
  block : ∀ k, k < w.heap.size → (k < lo ∨ hi ≤ k) → w'.heap[k]? = w.heap[k]?
section
variable {w w' w'' : World} {lo hi lo' hi' B g sz n cp : Nat} {e : TypeId} {A : Option Addr} {xs : List Value} {l : List UInt8} {row : Option Nat}
theorem Chg.below (h : Chg lo hi w w') (hB : B ≤ w.heap.size) (hl : B ≤ lo) : Below B w w' := ⟨h.os, h.tape, h.output, h.size, fun k hk => h.block k (by omega) (.inl (by omega))⟩
theorem Chg.of_below (h : Below w.heap.size w w') : Chg lo hi w w' := ⟨h.os, h.tape, h.output, h.size, fun k hk _ => h.block k hk⟩
theorem Chg.of_lo (h : Below lo w w') (hh : w.heap.size ≤ hi) : Chg lo hi w w' := ⟨h.os, h.tape, h.output, h.size, fun k hk a => h.block k (by omega)⟩
theorem Chg.refl : Chg lo hi w w := Chg.of_below (Below.refl _ _)
theorem Chg.drew : Chg lo hi w w.drew := Chg.of_below (below_drew w)
theorem Chg.of_g (h : w.grownBy w' row) (hr : ∀ k, row = some k → lo ≤ k ∧ k < hi) : Chg lo hi w w' := ⟨h.os, h.tape, h.output, h.size, fun k hk a => h.block k hk (fun e => by have := hr k e.symm; omega)⟩
theorem Chg.of_g1 (h : w.grownBy w' (some g)) (h1 : lo ≤ g) (h2 : g < hi) : Chg lo hi w w' := Chg.of_g h (fun k e => by injection e with e; omega)
theorem Chg.trans (h : Chg lo hi w w') (k : Chg lo hi w' w'') : Chg lo hi w w'' :=
  ⟨k.os.trans h.os, k.tape.trans h.tape, k.output.trans h.output, Nat.le_trans h.size k.size, fun i hi ha => (k.block i (Nat.lt_of_lt_of_le hi h.size) ha).trans (h.block i hi ha)⟩
theorem Chg.thenB (h : Chg lo hi w w') (k : Below w'.heap.size w' w'') : Chg lo hi w w'' := h.trans (Chg.of_below k)
theorem Chg.andNew (h : Chg lo hi w w') (k : w'.grownBy w'' row) (hr : ∀ j, row = some j → w.heap.size ≤ j) : Chg lo hi w w'' :=
  ⟨k.os.trans h.os, k.tape.trans h.tape, k.output.trans h.output, Nat.le_trans h.size k.size, fun i hi ha => (k.block i (Nat.lt_of_lt_of_le hi h.size) (fun e => by have := hr i e.symm; omega)).trans (h.block i hi ha)⟩
theorem Chg.wide (h : Chg lo hi w w') (h1 : lo' ≤ lo) (h2 : hi ≤ hi') : Chg lo' hi' w w' := ⟨h.os, h.tape, h.output, h.size, fun k hk a => h.block k hk (by omega)⟩
theorem Chg.own (h : Chg lo hi w w') (hl : w.heap.size ≤ lo) : Below w.heap.size w w' := h.below (Nat.le_refl _) hl
theorem chg_of_ok (h : Rw.ok (none, some (.inr (lo, hi))) w w') : Chg lo hi w w' :=
  have h' : SameOut w w' none lo hi := h
  ⟨h'.os, h'.tape, h'.output, h'.size, fun k hk a => h'.block k hk (fun e => by cases e) a⟩
theorem ok_of_chg (h : Chg lo hi w w') : Rw.ok (row, some (.inr (lo, hi))) w w' :=
  show SameOut w w' row lo hi from ⟨h.os, h.tape, h.output, h.size, fun k hk _ a => h.block k hk a⟩
theorem Blk.c {t : TypeId} {cs : List Value} (h : Blk w g t cs) (hc : Chg lo hi w w') (ha : g < lo ∨ hi ≤ g) : Blk w' g t cs := (hc.block g h.lt ha).trans h
theorem TyAt.c (h : TyAt w g e) (hc : Chg lo hi w w') (ha : g < lo ∨ hi ≤ g) : TyAt w' g e := h.keep (hc.block g h.lt ha)
theorem RowH.c (h : RowH w lo hi e sz A n cp xs) (hc : Chg lo' hi' w w') (ha : hi ≤ lo' ∨ hi' ≤ lo) : RowH w' lo hi e sz A n cp xs :=
  ⟨⟨h.o.1, by
    rcases h.o.2 with h3 | ⟨g, cap, cur, h3, h4, h5, h6⟩
    · exact .inl h3
    · have hA : A = some ⟨g, 0, none⟩ := by injection h3
      have hg := h.hi g (by rw [hA]; rfl)
      have hl := h.lt g (by rw [hA]; rfl)
      exact .inr ⟨g, cap, cur, h3, h4, (hc.block g hl.2 (by omega)).trans h5, h6⟩⟩, h.hi⟩
theorem OwnH.c (h : OwnH w lo hi A n l) (hc : Chg lo' hi' w w') (ha : hi ≤ lo' ∨ hi' ≤ lo) : OwnH w' lo hi A n l := RowH.c h hc ha
theorem Rd.c (h : Rd w A l) (hc : Chg lo hi w w') (ha : ∀ k, blk A = some k → k < lo ∨ hi ≤ k) : Rd w' A l := by
  by_cases hl : l = []
  · subst hl; exact ⟨h.1, fun h => absurd rfl h⟩
  · obtain ⟨b, o, rfl, hcl⟩ := h.2 (fun e => hl (by cases l with | nil => rfl | cons x y => cases e))
    refine ⟨h.1, fun _ => ⟨b, o, rfl, fun j u hj => ?_⟩⟩
    have h1 := hcl j u hj
    have hlt : b < w.heap.size := block_lt_of_cell h1
    rw [← h1]
    show World.cell? w' _ = World.cell? w _
    unfold World.cell?
    rw [show w'.heap[b]? = w.heap[b]? from hc.block b hlt (ha b rfl)]
/-- Bytes that are read, in the blocks from lo to hi. -/
structure RdB (w : World) (lo hi : Nat) (A : Option Addr) (l : List UInt8) : Prop where
  r : Rd w A l
  b : ∀ k, blk A = some k → lo ≤ k ∧ k < hi
theorem RdB.u (h : RdB w lo hi A l) (hb : Below w.heap.size w w') : RdB w' lo hi A l := ⟨h.r.u hb, h.b⟩
theorem RdB.d (h : RdB w lo hi A l) : RdB w.drew lo hi A l := ⟨h.r.d, h.b⟩
theorem RdB.c (h : RdB w lo hi A l) (hc : Chg lo' hi' w w') (ha : hi ≤ lo' ∨ hi' ≤ lo) : RdB w' lo hi A l := ⟨Rd.c h.r hc (fun k e => by have := h.b k e; omega), h.b⟩
theorem RdB.k (h : RdB w lo hi A l) (hg : w.grownBy w' row) (ha : Ap row lo hi) : RdB w' lo hi A l := by
  refine ⟨h.r.grown hg ?_, h.b⟩
  cases hA : blk A with
  | none => exact .inl rfl
  | some k => exact .inr fun e => by have := h.b k hA; have := ha k e.symm; omega
theorem RdB.to_Rd (h : RdB w lo hi A l) : Rd w A l := h.r
theorem RdB.to_Reads (h : RdB w lo hi A l) : Reads w 1 A l.length (B8 l) := h.r
theorem RdB.base (h : RdB w lo hi A l) (h1 : lo' ≤ lo) (h2 : hi ≤ hi') : RdB w lo' hi' A l := ⟨h.r, fun k e => by have := h.b k e; omega⟩
theorem RdB.nil_ : RdB w lo hi none [] := ⟨Rd.nil w none, fun k e => by cases e⟩
theorem OwnH.rdB (h : OwnH w lo hi A n l) : RdB w lo hi A l := ⟨h.to_Rd, fun k hk => ⟨(RowH.lt h k hk).1, h.hi k hk⟩⟩
theorem Blk.rdB {t : TypeId} (h : Blk w g t (B8 l)) : RdB w g (g + 1) (some ⟨g, 0, none⟩) l :=
  ⟨⟨by rw [B8_length, Nat.mul_one], fun _ => ⟨g, 0, rfl, fun j u hj => by rw [h.cell, Nat.zero_add]; exact hj⟩⟩, fun k e => by simp [blk] at e; omega⟩
/-- Elements that look at no memory: kept with their row. -/
theorem OwnS.c0 {α : Type} {X : GoT α} {L : List α} (h : OwnS X e w lo hi A cp L) (hX : ∀ {cs a}, X.T w cs a → X.T w' cs a) (hc : Chg lo' hi' w w') (ha : hi ≤ lo' ∨ hi' ≤ lo) : OwnS X e w' lo hi A cp L := by
  obtain ⟨xs, h1, h2⟩ := h
  exact ⟨xs, h1.c hc ha, fun i hi => hX (h2 i hi)⟩
end
end Go.Proofs.Ytchcpnfafgiifaa
/-
  The reader of package octet, in the form that the search applies: what is left, and the error.
-/
namespace Go.Proofs.Ytchcpnfafgiifaa
open Go.RowKit

/-- The reader at block g: what is left, and its error. -/
def Rdr (w : World) (g : Nat) (s : RS) : Prop := ∃ l p, RdrI w g l p s.2 ∧ s.1 = l.drop p
section
variable {w w' : World} {g p : Nat} {l : List UInt8} {s : RS}
theorem RdrI.rdr (h : RdrI w g l p s.2) (hs : s.1 = l.drop p) : Rdr w g s := ⟨l, p, h, hs⟩
theorem Rdr.u (h : Rdr w g s) (hb : Below w.heap.size w w') : Rdr w' g s := by
  obtain ⟨l, p, h, hs⟩ := h
  exact ⟨l, p, h.below hb, hs⟩
theorem Rdr.d (h : Rdr w g s) : Rdr w.drew g s := h
theorem Rdr.at_ (h : Rdr w g s) : TyAt w g 73 := by
  obtain ⟨l, p, h, hs⟩ := h
  obtain ⟨A, c, hB, -⟩ := h.blk'
  exact hB.at_
theorem Rdr.lt (h : Rdr w g s) : g < w.heap.size := h.at_.lt
theorem Rdr.y {e' : TypeId} {row : Option Nat} (h : Rdr w g s) (hg : Grew w w' e' row) (hne : e' ∉ [73, 5]) : Rdr w' g s := by
  simp only [List.mem_cons, List.not_mem_nil, or_false, not_or] at hne
  obtain ⟨l, p, ⟨A, c, hB, ho, h⟩, hs⟩ := h
  exact ⟨l, p, ⟨A, c, hB.y hg hne.1, (OwnH.y ho.h_ hg hne.2).o, h⟩, hs⟩
end
theorem grew_rdr {w w' : World} {g : Nat} {s : RS} (h : Rdr w g s) (hg : w.grownBy w' (some g)) : Grew w w' 73 (some g) := ⟨hg, fun k hk => by injection hk with hk; subst hk; exact h.at_⟩

/-- What the reader's methods give (named, so that it is taken from what is known). -/
structure WordR (size : Int) (l : List UInt8) (e v : Nat) (l' : List UInt8) (e' : Nat) : Prop where
  h : rWord size (l, e) = (v, (l', e'))
structure BlockR (l : List UInt8) (e : Nat) (p l' : List UInt8) (e' : Nat) : Prop where
  h : rBlock (l, e) = (p, (l', e'))
structure TakeR (n : Int) (l : List UInt8) (e : Nat) (p l' : List UInt8) (e' : Nat) : Prop where
  h : rTake n.toNat (l, e) = (p, (l', e'))
theorem C_rRead {A : Option Addr} {l : List UInt8} {k c : Nat} (w : World) (hr : Rd w A l) (hk : k = l.length) (hl : l.length ≤ 4000000000) :
    CallsR Try.prog 20 [.slice A k c] w fun v w' => ∃ g, v = .pointer (some ⟨g, 0, none⟩) ∧ w.heap.size ≤ g ∧ g < w'.heap.size ∧ Rdr w' g (l, 0) ∧ Below w.heap.size w w' :=
  (C_Read c hk w hr (by omega)).mono fun _ _ ⟨g, hv, hg, hlt, hR, hb⟩ => ⟨g, hv, hg, hlt, hR.rdr (s := (l, 0)) rfl, hb⟩
theorem C_rBlock {g e e' : Nat} {l l' p : List UInt8} (w : World) (hR : Rdr w g (l, e)) (hr : BlockR l e p l' e') :
    CallsR Try.prog 23 [.pointer (some ⟨g, 0, none⟩)] w fun v w' => ∃ A' c', v = .slice A' p.length c' ∧ OwnH w' w.heap.size w'.heap.size A' c' p ∧ Rdr w' g (l', e') ∧ Grew w w' 73 (some g) ∧ Chg g (g + 1) w w' := by
  have hR0 := hR
  obtain ⟨m, q, h, hs⟩ := hR
  obtain rfl : l = m.drop q := hs
  refine (C_RBlock w h).mono ?_
  rintro v w' ⟨hg, ⟨A', c', rfl, ho⟩, p', hR, hs⟩
  dsimp only at ho hR hs ⊢
  rw [hr.h] at ho hR hs ⊢
  exact ⟨A', c', rfl, ho.h_, hR.rdr (s := (l', e')) hs, grew_rdr hR0 hg, Chg.of_g1 hg (Nat.le_refl _) (by omega)⟩
theorem C_rWord {g e e' v : Nat} {l l' : List UInt8} {size : Int} (w : World) (hR : Rdr w g (l, e)) (hr : WordR size l e v l' e') :
    CallsR Try.prog 21 [.pointer (some ⟨g, 0, none⟩), .int .i64 size] w fun x w' => x = .int .u64 (v : Int) ∧ Rdr w' g (l', e') ∧ Grew w w' 73 (some g) ∧ Chg g (g + 1) w w' := by
  have hR0 := hR
  obtain ⟨m, q, h, hs⟩ := hR
  obtain rfl : l = m.drop q := hs
  refine (C_RWord size w h).mono ?_
  rintro v w' ⟨rfl, hg, p', hR, hs⟩
  dsimp only at hR hs ⊢
  rw [hr.h] at hR hs ⊢
  exact ⟨rfl, hR.rdr (s := (l', e')) hs, grew_rdr hR0 hg, Chg.of_g1 hg (Nat.le_refl _) (by omega)⟩
theorem C_rErr {g e : Nat} {l : List UInt8} (w : World) (hR : Rdr w g (l, e)) :
    CallsR Try.prog 22 [.pointer (some ⟨g, 0, none⟩)] w fun v w' => v = .int .i64 (e : Int) ∧ w' = w := by
  obtain ⟨m, q, h, hs⟩ := hR
  exact (C_RErr w h).mono fun _ _ ⟨hv, hw⟩ => ⟨hv, hw.symm⟩
end Go.Proofs.Ytchcpnfafgiifaa
/-
  The reader of package octet: Take and Left, in the form that the search applies.
-/
namespace Go.Proofs.Ytchcpnfafgiifaa
open Go.RowKit
theorem C_rTake {g e e' : Nat} {n : Int} {l l' p : List UInt8} (w : World) (hR : Rdr w g (l, e)) (hr : TakeR n l e p l' e') (hn : n ≤ 4000000000) :
    CallsR Try.prog 24 [.pointer (some ⟨g, 0, none⟩), .int .i64 n] w fun v w' => ∃ A' c', v = .slice A' p.length c' ∧ OwnH w' w.heap.size w'.heap.size A' c' p ∧ Rdr w' g (l', e') ∧ Grew w w' 73 (some g) ∧ Chg g (g + 1) w w' := by
  have hR0 := hR
  obtain ⟨m, q, h, hs⟩ := hR
  obtain rfl : l = m.drop q := hs
  refine (C_RTake n w h (by omega)).mono ?_
  rintro v w' ⟨hg, ⟨A', c', rfl, ho⟩, p', hR, hs⟩
  dsimp only at ho hR hs ⊢
  rw [hr.h] at ho hR hs ⊢
  exact ⟨A', c', rfl, ho.h_, hR.rdr (s := (l', e')) hs, grew_rdr hR0 hg, Chg.of_g1 hg (Nat.le_refl _) (by omega)⟩
theorem C_rLeft {g e : Nat} {l : List UInt8} (w : World) (hR : Rdr w g (l, e)) :
    CallsR Try.prog 25 [.pointer (some ⟨g, 0, none⟩)] w fun v w' => v = .int .i64 (l.length : Int) ∧ Below w.heap.size w w' := by
  obtain ⟨m, q, h, hs⟩ := hR
  refine (C_RLeft w h).mono ?_
  rintro v w' ⟨rfl, rfl⟩
  have hs : l = m.drop q := hs
  exact ⟨by rw [hs], below_drew w⟩
end Go.Proofs.Ytchcpnfafgiifaa
/-
  append(x, make([]byte, m)...) on a row of bytes of the call's own. No function of the program is named here.
-/
namespace Go.Proofs.Ytchcpnfafgiifaa
open Go.RowKit
/-- The zero bytes, as a string. -/
def zeroS (m : Nat) : ByteArray := ⟨(List.replicate m (0 : UInt8)).toArray⟩
theorem zeroS_size (m : Nat) : (zeroS m).size = m := by
  show (List.replicate m (0 : UInt8)).toArray.size = m
  simp
theorem zeroS_cells (m : Nat) : Go.Lib.strCells (zeroS m) = B8 (List.replicate m 0) := by
  simp [Go.Lib.strCells, zeroS, B8]
section
variable {P : Program} (w : World)
theorem run_append_zs (t u ti ty e : TypeId) (i : TypeInfo) (ht : P.underlying t = some (.slice e)) (hti : P.underlying ti = some (.int .i64)) (hu : P.underlying u = some .string) (hi : P.info? e = some i) (hz : i.zero = some (.int .u8 0)) (hsize : i.size = 1) (hby : i.bytes = 1)
    (A : Option Addr) (n c m : Nat) (h0 : 0 < m) (h : n + m ≤ 4000000000) :
    (Builtin.append_ #[t, ti] ty #[.slice A n c, .int .i64 (m : Int)]).run P w = (Builtin.append_ #[t, u] ty #[.slice A n c, .string (zeroS m)]).run P w := by
  have hw : IntKind.i64.wrap (m : Int) = m := i64_in (by omega) (by omega)
  have hneg : ¬ ((m : Int) < 0) := by omega
  have hb1 : ¬ (281474976710656 < (m : Int)) := by omega
  have h63 : ¬ (9223372036854775807 < ((n : Int) + (m : Int))) := by omega
  have hz1 : (zeroS m).data.toList = List.replicate m 0 := rfl
  have hdl : List.take m (List.map (fun b : UInt8 => Value.int .u8 (b.toNat : Int)) (zeroS m).data.toList) = List.replicate m (Value.int .u8 0) := by
    rw [hz1, List.map_replicate, List.take_of_length_le (by rw [List.length_replicate]; exact Nat.le_refl _)]; rfl
  have hda : Array.map (fun b : UInt8 => Value.int .u8 (b.toNat : Int)) (zeroS m).data = Array.replicate m (Value.int .u8 0) := by
    apply Array.ext'
    rw [Array.toList_map, hz1, List.map_replicate, Array.toList_replicate]; rfl
  have hex : (Array.replicate m (Value.int .u8 0)).extract 0 m = Array.replicate m (Value.int .u8 0) := by
    apply Array.ext
    · simp
    · intro j h1 h2; simp
  have hzc : ∀ k, Builtin.zeroCells (Value.int .u8 0).cells k = (Array.replicate k (Value.int .u8 0)) := fun k => by
    show Builtin.zeroCells #[Value.int .u8 0] k = _
    apply Array.ext
    · simp [Builtin.zeroCells]
    · intro j h1 h2
      simp [Builtin.zeroCells, Nat.mod_one]
  have hm0 : m ≠ 0 := by omega
  by_cases hroom : n + m ≤ c
  · simp [Builtin.append_, run_underlying ht, run_underlying hti, run_underlying hu, sizeOf, typeInfo, zeroValue, hi, hz, hsize, hby, asInt, asIntOf, hw, hneg, hb1, Builtin.lenOf, zeroS_size, hroom, Builtin.firstCells, hdl, hm0, hzc]
  · have h48 := nextslicecap_le (need := n + m) (old := c) (by omega)
    have h48' : ¬ (281474976710656 < Builtin.nextslicecap (n + m) c) := by omega
    simp [Builtin.append_, run_underlying ht, run_underlying hti, run_underlying hu, sizeOf, typeInfo, zeroValue, hi, hz, hsize, hby, asInt, asIntOf, hw, hneg, hb1, h63, Builtin.lenOf, zeroS_size, hroom, Builtin.firstCells, hdl, hm0, hzc, h48', hda, hex]
end
theorem rd_upto {w : World} {A : Option Addr} {p : List UInt8} (h : Rd w A p) (k : Nat) : Rd w A (p.take k) := by
  refine ⟨by rw [B8_length, Nat.mul_one], fun hne => ?_⟩
  have hpne : B8 p ≠ [] := fun e => by
    apply hne
    have : p = [] := by cases p with | nil => rfl | cons a b => cases e
    rw [this]; rw [List.take_nil]; rfl
  obtain ⟨b, o, rfl, hc⟩ := h.2 hpne
  refine ⟨b, o, rfl, fun j u hj => hc j u ?_⟩
  unfold B8 at hj ⊢
  rw [List.getElem?_map] at hj ⊢
  rcases Nat.lt_or_ge j k with h3 | h3
  · rwa [List.getElem?_take_of_lt h3] at hj
  · rw [List.getElem?_eq_none (by rw [List.length_take]; omega)] at hj; cases hj
section
variable {P : Program} {fn : Func} {F : Ending → World → Prop} {N : Nat} {ks : List K} {ops : Array Oper} {tg : Tags} {l : List Oper} {fr : Fr} {w : World} {ty t ti : TypeId} {pos : String} {aft : Array Edge} {gd : Option (Nat × Bool)} {d n c lo hi : Nat} {x y : Operand} {A : Option Addr} {s : List UInt8}
/-- append(x, make([]byte, m)...): x the call's own. -/
theorem wl_appZs (T : U8 P t) {u : TypeId} (hti : P.underlying ti = some (.int .i64)) (hu : P.underlying u = some .string) (m : Nat) {M : Int} (hx : fr.ev x = some (.slice A n c)) (hown : OwnH w lo hi A c s) (hn : n = s.length) (hy : fr.ev y = some (.int .i64 M)) (hM : M = (m : Int)) (hm : 0 < m) (hlen : s.length + m ≤ 4000000000) (hB : lo ≤ w.heap.size)
    (h : ∀ A' c' w', OwnH w' lo w'.heap.size A' c' (s ++ List.replicate m 0) → Grew w w' 5 (blk A) → Below lo w w' → WL P fn F N ks ops tg.tail l ((d, .slice A' (s ++ List.replicate m 0).length c') :: fr) w')
    (ht : tg.loud = true := by rfl) (hg : onG ops fr gd = true := by rfl) (hd : Nat.blt d N = true := by rfl) (hq : tg.calm = false ∨ blk A = none ∨ blk A = tg.row := by exact .inl rfl) :
    WL P fn F N ks ops tg (⟨some d, .call { callee := .builtin .append, args := #[x, y], argTypes := #[t, ti] }, ty, pos, aft, gd⟩ :: l) fr w := by
  subst hn; subst hM
  obtain ⟨i, hi', hz, hs, hb⟩ := info_parts T.hi
  obtain ⟨v', w', hrun, h2, h3, _⟩ := Go.Lib.run_append_own_string (P := P) w lo t u ty 5 i T.ht hu hi' hz hs hb (.slice A s.length c) s.length (B8 s) hown.o (zeroS m) (by rw [zeroS_size]; simp only [maxLen]; omega) (by rw [zeroS_size]; omega) hB
  rw [← run_append_zs (P := P) w t u ti ty 5 i T.ht hti hu hi' hz hs hb A s.length c m hm (by omega)] at hrun
  obtain ⟨A', c', rfl⟩ := ownsRow_shape h2
  rw [blk_own] at h3
  rw [zeroS_size, zeroS_cells, ← B8_append] at h2
  have hl : (s ++ List.replicate m 0).length = s.length + m := by rw [List.length_append, List.length_replicate]
  rw [zeroS_size] at hrun
  rw [← hl] at h2 hrun
  have hlt : ∀ b, blk A = some b → lo ≤ b ∧ b < w.heap.size := RowH.lt hown
  have hO : OwnH w' lo w'.heap.size A' c' (s ++ List.replicate m 0) := ⟨h2, fun k hk => (World.ownsRow.lt h2 k (by rw [blk_own]; exact hk)).2⟩
  exact wl_v (o_builtin (xs := [x, y]) (vs := [.slice A s.length c, .int .i64 (m : Int)]) (by simp [Fr.evs, hx, hy]) (by simp [builtin, hrun]) (by simp)) (h A' c' w' hO ⟨h3, RowH.ty hown⟩ ((Below.refl lo w).grown h3 hB (fun b hb => (hlt b hb).1))) ht hg hd
    (hq.imp id fun e => e.elim (fun e => grown_wide (e ▸ h3) _) (fun e => e ▸ h3))
--@ rule slice l wl_slBB
theorem wl_slBB (T : U8 P t) {p : List UInt8} {z : Operand} {len cap : Nat} {kl kh : IntKind} {L H : Int} (lo hi : Nat) (hx : fr.ev x = some (.slice A len cap)) (hy : fr.ev y = some (.int kl L)) (hz : fr.ev z = some (.int kh H)) (hr : Rd w A p) (hlen : len = p.length) (hl : L = (lo : Int)) (hh : H = (hi : Int)) (h1 : lo ≤ hi) (h2 : hi ≤ p.length) (h3 : p.length ≤ cap)
    (hk : ∀ A' c', Rd w A' ((p.drop lo).take (hi - lo)) → hi - lo ≤ c' → c' ≤ cap → WL P fn F N ks ops tg.tail l ((d, .slice A' (hi - lo) c') :: fr) w) (hg : onG ops fr gd = true := by rfl) (hd : Nat.blt d N = true := by rfl) :
    WL P fn F N ks ops tg (⟨some d, .slice t x (some y) (some z) none, ty, pos, aft, gd⟩ :: l) fr w := by
  obtain ⟨i, hi', hz', hs, hb⟩ := info_parts T.hi
  refine wl_p (fun _ => o_slice (sz := 1) (lo := lo) (hi := hi) T.ht (fun w => by simp [sizeOf, typeInfo, hi', hs]) hx hy hz hl hh h1 (by omega)) (hk _ _ ?_ (by omega) (by omega)) hg hd
  have h4 := (hr.drop (k := lo) (cap := cap) (by omega) h3)
  have h5 : cutA A cap 1 lo = if cap = lo then A else A.map (·.add lo) := by unfold cutA; rw [Nat.mul_one]
  rw [h5]
  exact rd_upto h4 _
--@ rule slice l wl_slBl
theorem wl_slBl (T : U8 P t) {p : List UInt8} {len cap : Nat} {kl : IntKind} {L : Int} (lo : Nat) (hx : fr.ev x = some (.slice A len cap)) (hy : fr.ev y = some (.int kl L)) (hr : Rd w A p) (hlen : len = p.length) (hl : L = (lo : Int)) (h1 : lo ≤ p.length) (h3 : p.length ≤ cap)
    (hk : ∀ A' c', Rd w A' (p.drop lo) → p.length - lo ≤ c' → c' ≤ cap → WL P fn F N ks ops tg.tail l ((d, .slice A' (p.length - lo) c') :: fr) w) (hg : onG ops fr gd = true := by rfl) (hd : Nat.blt d N = true := by rfl) :
    WL P fn F N ks ops tg (⟨some d, .slice t x (some y) none none, ty, pos, aft, gd⟩ :: l) fr w := by
  subst hlen
  obtain ⟨i, hi', hz', hs, hb⟩ := info_parts T.hi
  refine wl_p (fun _ => o_slice_lo (sz := 1) (lo := lo) T.ht (fun w => by simp [sizeOf, typeInfo, hi', hs]) hx hy hl h1) (hk _ _ ?_ (by omega) (by omega)) hg hd
  have h4 := (hr.drop (k := lo) (cap := cap) (by omega) h3)
  have h5 : cutA A cap 1 lo = if cap = lo then A else A.map (·.add lo) := by unfold cutA; rw [Nat.mul_one]
  rw [h5]
  exact h4
--@ rule slice l wl_slBh
theorem wl_slBh (T : U8 P t) {p : List UInt8} {z : Operand} {len cap : Nat} {kh : IntKind} {H : Int} (hi : Nat) (hx : fr.ev x = some (.slice A len cap)) (hz : fr.ev z = some (.int kh H)) (hr : Rd w A p) (hlen : len = p.length) (hh : H = (hi : Int)) (h2 : hi ≤ p.length) (h3 : p.length ≤ cap)
    (hk : Rd w A (p.take hi) → WL P fn F N ks ops tg.tail l ((d, .slice A hi cap) :: fr) w) (hg : onG ops fr gd = true := by rfl) (hd : Nat.blt d N = true := by rfl) :
    WL P fn F N ks ops tg (⟨some d, .slice t x none (some z) none, ty, pos, aft, gd⟩ :: l) fr w := by
  obtain ⟨i, hi', hz', hs, hb⟩ := info_parts T.hi
  exact wl_p (fun _ => o_slice_hi (sz := 1) (hi := hi) T.ht (fun w => by simp [sizeOf, typeInfo, hi', hs]) hx hz hh (by omega)) (hk (rd_upto hr _)) hg hd
end
end Go.Proofs.Ytchcpnfafgiifaa
