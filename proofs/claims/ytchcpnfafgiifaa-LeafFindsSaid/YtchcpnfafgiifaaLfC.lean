/-
  Walks of package leaf: whether a node is valid.
-/
import Derived.Test.YtchcpnfafgiifaaLfB
import Derived.Test.YtchcpnfafgiifaaZ
namespace Go.Proofs.Ytchcpnfafgiifaa
open Go.RowKit

/-- A leaf is valid. -/
def WholeL (items : List (By × By)) (keys : List By) : Prop := keys.length = 0 ∧ items.length ≤ 8 ∧ ∀ i (h : i < items.length), (1 ≤ items[i].1.length ∧ items[i].1.length ≤ 16) ∧ items[i].2.length ≤ 32 ∧ (0 < i → cmpL items[i - 1].1 items[i].1 < 0)
/-- The items are short. -/
def LightI (items : List (By × By)) : Prop := items.length ≤ 4000 ∧ ∀ x ∈ items, x.1.length ≤ 4000000000 ∧ x.2.length ≤ 4000000000
def LightK (keys : List By) : Prop := keys.length ≤ 4000 ∧ ∀ x ∈ keys, x.length ≤ 4000000000
theorem C_wholeLeaf {A B : Option Addr} {items : List (By × By)} {keys : List By} {n m c d : Nat} (w : World) (hI : RI w A items) (hK : RKy w B keys) (hn : n = items.length) (hm : m = keys.length) (hl : LightI items) (hlk : LightK keys) :
    CallsR Try.prog 61 [.agg #[.slice A n c, .slice B m d]] w fun v w' => ∃ b, v = .bool b ∧ (b = true ↔ WholeL items keys) ∧ Below w.heap.size w w' := by
  subst hn; subst hm
  obtain ⟨hl1, hl2⟩ := hl
  obtain ⟨hl3, hl4⟩ := hlk
  refine callsR Try.func61 rfl rfl (by kernel_rfl) rfl ?_
  have hw := Below.refl w.heap.size w
  refine rk_seq ?_
  refine rk_region ?_
  refine wl_boxg [_, _] rfl (by rfl) ?_
  rintro g1 w1 f1 b1 i1 i1_1
  have s1 := b1.size
  replace hw := hw.trans (b1.mono hw.size)
  refine wl_p (fun _ => o_assign rfl) ?_
  refine wl_nil ?_
  refine rk_seq ?_
  refine rk_seq ?_
  refine rk_region ?_
  refine wl_p (fun _ => o_faddr (s := 49) (i := 1) (off := 1) Try.underlying49 rfl Try.sizeOf24 rfl rfl rfl) ?_
  refine wl_r (o_loadbg Try.isAgg24 rfl f1 (by rfl)) ?_
  refine wl_p (fun _ => o_len (t := 24) Try.underlying24 rfl) ?_
  refine wl_p (fun _ => o_ne rfl rfl) ?_
  refine wl_p (fun _ => o_move rfl) ?_
  refine wl_bool 9 rfl (fun h9 => ?_) (fun h9 => ?_) <;> try simp only [decide_eq_true_eq, decide_eq_false_iff_not, Bool.not_eq_true', Bool.not_eq_false', Bool.and_eq_true, Bool.and_eq_false_iff, Bool.or_eq_true, Bool.or_eq_false_iff] at h9
  · refine wl_off ?_
    refine wl_off ?_
    refine wl_off ?_
    refine wl_off ?_
    refine wl_p (fun _ => o_pick_t rfl rfl) ?_
    refine wl_nil ?_
    refine rk_true rfl ?_
    refine rk_seq ?_
    refine rk_region ?_
    refine wl_p (fun _ => o_assign rfl) ?_
    refine wl_nil ?_
    refine ret1 rfl rfl ?_
    exact ⟨_, rfl, ⟨fun h => (by cases h), fun h => absurd h.1 (by omega)⟩, hw⟩
  refine wl_p (fun _ => o_faddr (s := 49) (i := 0) (off := 0) Try.underlying49 rfl Try.sizeOf22 rfl rfl rfl) ?_
  refine wl_r (o_loadbg Try.isAgg22 rfl f1 (by rfl)) ?_
  refine wl_p (fun _ => o_len (t := 22) Try.underlying22 rfl) ?_
  refine wl_p (fun _ => o_gt rfl rfl) ?_
  refine wl_p (fun _ => o_pick_f rfl rfl) ?_
  refine wl_nil ?_
  refine rk_if rfl (fun h14 => ?_) (fun h14 => ?_)
  · refine rk_seq ?_
    refine rk_region ?_
    refine wl_p (fun _ => o_assign rfl) ?_
    refine wl_nil ?_
    refine ret1 rfl rfl ?_
    refine ⟨_, rfl, ⟨fun h => (by cases h), fun h => absurd h.2.1 (by omega)⟩, hw⟩
  refine rk_skip ?_
  refine rk_seq ?_
  refine rk_seq ?_
  refine rk_region ?_
  refine wl_p (fun _ => o_faddr (s := 49) (i := 0) (off := 0) Try.underlying49 rfl Try.sizeOf22 rfl rfl rfl) ?_
  refine wl_r (o_loadbg Try.isAgg22 rfl f1 (by rfl)) ?_
  refine wl_p (fun _ => o_len (t := 22) Try.underlying22 rfl) ?_
  refine wl_p (fun _ => o_move rfl) ?_
  refine wl_nil ?_
  refine rk_block ?_
  refine rk_joinf (fun fb fr w2 => fr = [] ++ fb.drop 1 ∧ WholeL items keys ∧ Below w1.heap.size w1 w2) ?_ (fun ks hj => ?_)
  rotate_left
  · refine rk_loopf (fun fb m fr w2 => ∃ (i : Nat) (v : Int), fr = [(18, .int .i64 v)] ++ fb ∧ v = i ∧ i ≤ items.length ∧ m = items.length - i ∧ (∀ j (h : j < items.length), j < i → (1 ≤ items[j].1.length ∧ items[j].1.length ≤ 16) ∧ items[j].2.length ≤ 32 ∧ (0 < j → cmpL items[j - 1].1 items[j].1 < 0)) ∧ Below w1.heap.size w1 w2) (n := items.length) (Fr.le_of (by kernel_rfl) (by kernel_rfl) (by repeat' constructor)) ⟨0, _, rfl, rfl, by omega, rfl, fun j _ h => absurd h (Nat.not_lt_zero _), Below.refl _ _⟩ ?_
    rintro m fr w2 ⟨i, v, rfl, rfl, hi, rfl, hok, hw1⟩
    first | refine rk_frame (by simp only [List.cons_append, List.nil_append, List.drop_succ_cons, List.drop_zero]; rfl) ?_ | refine wl_frame (by simp only [List.cons_append, List.nil_append, List.drop_succ_cons, List.drop_zero]; rfl) ?_
    have shw1 := hw1.size
    replace hw := hw.trans (hw1.mono hw.size)
    replace f1 := f1.u hw1
    refine rk_seq ?_
    refine rk_region ?_
    refine wl_p (fun _ => o_lt rfl rfl) ?_
    refine wl_nil ?_
    refine rk_seq ?_
    refine rk_if rfl (fun h19 => ?_) (fun h19 => ?_)
    · have hil : i < items.length := by omega
      obtain ⟨n1, n2⟩ := hl2 _ (List.getElem_mem hil)
      refine rk_skip ?_
      refine rk_seq ?_
      refine rk_block ?_
      refine rk_seq ?_
      refine rk_region ?_
      refine wl_p (fun _ => o_move rfl) ?_
      refine wl_p (fun _ => (o_iaddrA (i) Try.underlying22 Try.sizeOf31 rfl rfl rfl (hI.some_ (by omega)) (by omega))) ?_
      refine wl_ldItem rfl hI hw (by omega) ?_
      rintro A122 c122 A222 c222 f22 f22_1 i22 i22_1
      refine wl_allocg [_, _] Try.zeroValue31 (by rfl) ?_
      rintro g4 w4 f4 b4 i4 i4_1
      have s4 := b4.size
      replace hw1 := hw1.trans (b4.mono hw1.size)
      replace hw := hw.trans (b4.mono hw.size)
      replace f1 := f1.u b4
      refine wl_p (fun _ => o_assign rfl) ?_
      refine wl_storega Try.sizeOf31 rfl rfl (by rfl) (oneCell_of (by rfl)) f4 (by rfl) ?_
      rintro w_1 f g e
      have s := g.size
      replace hw1 := hw1.trans (below_of_grownBy g.g hw1.size (by omega))
      replace hw := hw.trans (below_of_grownBy g.g hw.size (by omega))
      replace f1 := f1.k g.g (ap_some (by omega))
      clear f4
      refine wl_nil ?_
      refine rk_seq ?_
      refine rk_seq ?_
      refine rk_region ?_
      refine wl_p (fun _ => o_faddr (s := 31) (i := 0) (off := 0) Try.underlying31 rfl Try.sizeOf27 rfl rfl rfl) ?_
      refine wl_r (o_loadbg Try.isAgg27 rfl f (by rfl)) ?_
      refine wl_call rfl (C_leafKey _ (by omega)) ?_
      rintro v25 w25 ⟨rfl, rfl⟩
      refine wl_p (fun _ => o_not rfl) ?_
      refine wl_p (fun _ => o_move rfl) ?_
      refine wl_bool 27 rfl (fun h27 => ?_) (fun h27 => ?_) <;> try simp only [decide_eq_true_eq, decide_eq_false_iff_not, Bool.not_eq_true', Bool.not_eq_false', Bool.and_eq_true, Bool.and_eq_false_iff, Bool.or_eq_true, Bool.or_eq_false_iff] at h27
      · refine wl_off ?_
        refine wl_off ?_
        refine wl_off ?_
        refine wl_off ?_
        refine wl_p (fun _ => o_pick_t rfl rfl) ?_
        refine wl_nil ?_
        refine rk_true rfl ?_
        refine rk_seq ?_
        refine rk_region ?_
        refine wl_p (fun _ => o_assign rfl) ?_
        refine wl_nil ?_
        refine ret1 rfl rfl ?_
        exact ⟨_, rfl, ⟨fun h => (by cases h), fun h => absurd (h.2.2 i hil).1 h27⟩, hw⟩
      refine wl_p (fun _ => o_faddr (s := 31) (i := 1) (off := 1) Try.underlying31 rfl Try.sizeOf27 rfl rfl rfl) ?_
      refine wl_r (o_loadbg Try.isAgg27 rfl f (by rfl)) ?_
      refine wl_call rfl (C_leafValue _ (by omega)) ?_
      rintro v30 w30 ⟨rfl, rfl⟩
      refine wl_p (fun _ => o_not rfl) ?_
      refine wl_p (fun _ => o_pick_f rfl rfl) ?_
      refine wl_nil ?_
      refine rk_cond rfl (fun h32 => ?_) (fun h32 => ?_) <;> try simp only [decide_eq_true_eq, decide_eq_false_iff_not, Bool.not_eq_true', Bool.not_eq_false', Bool.and_eq_true, Bool.and_eq_false_iff, Bool.or_eq_true, Bool.or_eq_false_iff] at h32
      · refine rk_seq ?_
        refine rk_region ?_
        refine wl_p (fun _ => o_assign rfl) ?_
        refine wl_nil ?_
        refine ret1 rfl rfl ?_
        exact ⟨_, rfl, ⟨fun h => (by cases h), fun h => absurd (h.2.2 i hil).2.1 h32⟩, hw⟩
      refine rk_skip ?_
      refine rk_seq ?_
      refine rk_draw (id := 8) (none) [0, 1, 2, 4, 12, 4, 36, 84, 132, 260, 4, 1028, 2564, 4100, 8196] [0, 1, 3, 7, 15, 7, 39, 127, 255, 511, 7, 1031, 4095, 8191, 16383] 4096 0 [(.p, 0), (.p, 1), (.p, 2), (.p, 3), (.r, 4), (.p, 5), (.p, 6), (.p, 7), (.p, 8), (.r, 9), (.p, 10), (.r, 11), (.l, 12), (.p, 13), (.p, 14)] (by kernel_rfl) (by kernel_rfl) (by kernel_rfl) (by kernel_rfl) (by kernel_rfl) ?_
      replace hw1 := hw1.drew
      replace hw := hw.drew
      replace f1 := f1.d
      replace f := f.d
      refine wl_p (fun _ => o_move rfl) ?_
      refine wl_p (fun _ => o_gt rfl rfl) ?_
      refine wl_p (fun _ => o_move rfl) ?_
      refine wl_bool 35 rfl (fun h35 => ?_) (fun h35 => ?_) <;> try simp only [decide_eq_true_eq, decide_eq_false_iff_not, Bool.not_eq_true', Bool.not_eq_false', Bool.and_eq_true, Bool.and_eq_false_iff, Bool.or_eq_true, Bool.or_eq_false_iff] at h35
      · have hi1 : i - 1 < items.length := by omega
        obtain ⟨n3, n4⟩ := hl2 _ (List.getElem_mem hi1)
        refine wl_p (fun _ => o_faddr (s := 49) (i := 0) (off := 0) Try.underlying49 rfl Try.sizeOf22 rfl rfl rfl) ?_
        refine wl_r (o_loadbg Try.isAgg22 rfl f1 (by rfl)) ?_
        refine wl_p (fun _ => o_move rfl) ?_
        refine wl_p (fun _ => o_sub rfl rfl (by omega) (by omega)) ?_
        refine wl_p (fun _ => (o_iaddrA (i - 1) Try.underlying22 Try.sizeOf31 rfl rfl (by omega) (hI.some_ (by omega)) (by omega))) ?_
        refine wl_p (fun _ => (o_faddrR rfl Try.underlying31 (by rfl) Try.sizeOf27 (by rfl) (by rfl))) ?_
        refine wl_ldKey rfl hI hw (by omega) ?_
        rintro A142 c142 f42 i42
        refine wl_p (fun _ => o_faddr (s := 31) (i := 0) (off := 0) Try.underlying31 rfl Try.sizeOf27 rfl rfl rfl) ?_
        refine wl_r (o_loadbg Try.isAgg27 rfl f (by rfl)) ?_
        refine wl_call rfl (C_leafCompare _ (f42.u hw) (f22.u hw) rfl rfl (by omega) (by omega)) ?_
        rintro v45 w45 ⟨rfl, b45⟩
        simp only [drew_size] at b45
        have s45 := b45.size
        simp only [drew_size] at s45
        replace hw1 := hw1.trans (b45.mono hw1.size)
        replace hw := hw.trans (b45.mono hw.size)
        replace f := f.u b45
        replace f1 := f1.u b45
        refine wl_p (fun _ => o_ge rfl rfl) ?_
        refine wl_p (fun _ => o_pick_t rfl rfl) ?_
        refine wl_nild ?_
        refine rk_if rfl (fun h47 => ?_) (fun h47 => ?_)
        · refine rk_seq ?_
          refine rk_region ?_
          refine wl_p (fun _ => o_assign rfl) ?_
          refine wl_nil ?_
          refine ret1 rfl rfl ?_
          exact ⟨_, rfl, ⟨fun h => (by cases h), fun h => absurd ((h.2.2 i hil).2.2 (by omega)) (by omega)⟩, hw⟩
        · refine rk_skip ?_
          refine rk_blk ?_
          refine rk_region ?_
          refine wl_p (fun _ => o_add rfl rfl (by omega) (by omega)) ?_
          refine wl_p (fun _ => o_move rfl) ?_
          refine wl_nil ?_
          exact rk_againf (Fr.le_of (by kernel_rfl) (by kernel_rfl) (by repeat' constructor)) ⟨i + 1, (i : Int) + 1, rfl, by omega, by omega, rfl, fun j hj hji => by
            rcases Nat.lt_or_ge j i with h | h
            · exact hok j hj h
            · obtain rfl : j = i := by omega
              exact ⟨h27, h32, fun _ => by omega⟩, hw1⟩ (by omega)
      · refine wl_off ?_
        refine wl_off ?_
        refine wl_off ?_
        refine wl_off ?_
        refine wl_off ?_
        refine wl_off ?_
        refine wl_off ?_
        refine wl_off ?_
        refine wl_off ?_
        refine wl_off ?_
        refine wl_off ?_
        refine wl_p (fun _ => o_pick_f rfl rfl) ?_
        refine wl_nild ?_
        refine rk_false rfl ?_
        refine rk_skip ?_
        refine rk_blk ?_
        refine rk_region ?_
        refine wl_p (fun _ => o_add rfl rfl (by omega) (by omega)) ?_
        refine wl_p (fun _ => o_move rfl) ?_
        refine wl_nil ?_
        exact rk_againf (Fr.le_of (by kernel_rfl) (by kernel_rfl) (by repeat' constructor)) ⟨i + 1, (i : Int) + 1, rfl, by omega, by omega, rfl, fun j hj hji => by
          rcases Nat.lt_or_ge j i with h | h
          · exact hok j hj h
          · obtain rfl : j = i := by omega
            exact ⟨h27, h32, fun h0 => absurd h0 (by omega)⟩, hw1⟩ (by omega)
    · refine rk_exit rfl ?_
      exact rk_tof hj (Fr.le_of (by kernel_rfl) (by kernel_rfl) (by repeat' constructor)) ⟨rfl, ⟨by omega, by omega, fun j h => hok j h (by omega)⟩, hw1⟩
  rintro fr w2 ⟨rfl, hW, hw1⟩
  first | refine rk_frame (by simp only [List.cons_append, List.nil_append, List.drop_succ_cons, List.drop_zero]; rfl) ?_ | refine wl_frame (by simp only [List.cons_append, List.nil_append, List.drop_succ_cons, List.drop_zero]; rfl) ?_
  have shw1 := hw1.size
  replace hw := hw.trans (hw1.mono hw.size)
  replace f1 := f1.u hw1
  refine rk_seq ?_
  refine rk_region ?_
  refine wl_p (fun _ => o_assign rfl) ?_
  refine wl_nil ?_
  refine ret1 rfl rfl ?_
  exact ⟨_, rfl, ⟨fun _ => hW, fun _ => rfl⟩, hw⟩

theorem C_shapeOf {A K B : Option Addr} {n q m c e d : Nat} (w : World) :
    CallsR Try.prog 17 [.agg #[.slice A n c, .slice K q e, .slice B m d]] w fun v w' => v = (if q = 0 then .iface 49 (.agg #[.slice A n c, .slice B m d]) else .iface 51 (.agg #[.slice A n c, .slice K q e, .slice B m d])) ∧ Below w.heap.size w w' := by
  refine callsR Try.func17 rfl rfl (by kernel_rfl) rfl ?_
  have hw := Below.refl w.heap.size w
  refine rk_seq ?_
  refine rk_region ?_
  refine wl_boxg [_, _, _] rfl (by rfl) ?_
  rintro g1 w1 f1 b1 i1 i1_1
  have s1 := b1.size
  replace hw := hw.trans (b1.mono hw.size)
  refine wl_p (fun _ => o_assign rfl) ?_
  refine wl_nil ?_
  refine rk_seq ?_
  refine rk_seq ?_
  refine rk_region ?_
  refine wl_p (fun _ => o_faddr (s := 26) (i := 1) (off := 1) Try.underlying26 rfl Try.sizeOf23 rfl rfl rfl) ?_
  refine wl_r (o_loadbg Try.isAgg23 rfl f1 (by rfl)) ?_
  refine wl_p (fun _ => o_len (t := 23) Try.underlying23 rfl) ?_
  refine wl_p (fun _ => o_eq rfl rfl) ?_
  refine wl_nil ?_
  refine rk_if rfl (fun h6 => ?_) (fun h6 => ?_)
  · refine rk_seq ?_
    refine rk_region ?_
    refine wl_p (fun _ => o_faddr (s := 26) (i := 0) (off := 0) Try.underlying26 rfl Try.sizeOf22 rfl rfl rfl) ?_
    refine wl_r (o_loadbg Try.isAgg22 rfl f1 (by rfl)) ?_
    refine wl_p (fun _ => o_faddr (s := 26) (i := 2) (off := 2) Try.underlying26 rfl Try.sizeOf24 rfl rfl rfl) ?_
    refine wl_r (o_loadbg Try.isAgg24 rfl f1 (by rfl)) ?_
    refine wl_p (fun _ => (o_buildg [_, _] Try.underlying49 Try.zeroValue49 (by rfl) (by rfl) rfl (by rfl) (by rfl) (fun _ => by kernel_rfl))) ?_
    refine wl_p (fun _ => (o_mkIface Try.underlying49 rfl)) ?_
    refine wl_p (fun _ => o_assign rfl) ?_
    refine wl_nil ?_
    refine ret1 rfl rfl ?_
    exact ⟨by rw [if_pos (by omega)], hw⟩
  · refine rk_skip ?_
    refine rk_seq ?_
    refine rk_region ?_
    refine wl_p (fun _ => o_faddr (s := 26) (i := 0) (off := 0) Try.underlying26 rfl Try.sizeOf22 rfl rfl rfl) ?_
    refine wl_r (o_loadbg Try.isAgg22 rfl f1 (by rfl)) ?_
    refine wl_p (fun _ => o_faddr (s := 26) (i := 1) (off := 1) Try.underlying26 rfl Try.sizeOf23 rfl rfl rfl) ?_
    refine wl_r (o_loadbg Try.isAgg23 rfl f1 (by rfl)) ?_
    refine wl_p (fun _ => o_faddr (s := 26) (i := 2) (off := 2) Try.underlying26 rfl Try.sizeOf24 rfl rfl rfl) ?_
    refine wl_r (o_loadbg Try.isAgg24 rfl f1 (by rfl)) ?_
    refine wl_p (fun _ => (o_buildg [_, _, _] Try.underlying51 Try.zeroValue51 (by rfl) (by rfl) rfl (by rfl) (by rfl) (fun _ => by kernel_rfl))) ?_
    refine wl_p (fun _ => (o_mkIface Try.underlying51 rfl)) ?_
    refine wl_p (fun _ => o_assign rfl) ?_
    refine wl_nil ?_
    refine ret1 rfl rfl ?_
    exact ⟨by rw [if_neg (by omega)], hw⟩

theorem C_containsI {A : Option Addr} {zs : List Int} {n c : Nat} {x : Int} (w : World) (hr : RZ w A zs) (hn : n = zs.length) (hl : zs.length ≤ 4000000000) :
    CallsR Try.prog 63 [.slice A n c, .int .i64 x] w fun v w' => v = .bool (zs.contains x) ∧ w' = w := by
  subst hn
  refine ⟨⟨_, Try.func63, rfl, by kernel_rfl⟩, ?_⟩
  by_cases h : zs = []
  · subst h
    refine (Try.slices_Contains_int_empty A c x w).mono ?_
    rintro e w' ⟨rfl, rfl⟩
    exact ⟨_, rfl, by simp, rfl⟩
  · obtain ⟨b, o, rfl, hc⟩ := hr.2 (by simpa using h)
    refine (Try.slices_Contains_int b o zs.length c zs x w (Nat.le_refl _) (by omega) (fun j hj => ?_)).mono ?_
    · rw [hc j (.int .i64 zs[j]) (by rw [List.getElem?_map, List.getElem?_eq_getElem hj]; rfl)]
      simp [hj]
    · rintro e w' ⟨rfl, rfl⟩
      exact ⟨_, rfl, by rw [List.take_length], rfl⟩

/-- A branch is valid. -/
def WholeB (items : List (By × By)) (kids : List Int) (keys : List By) : Prop := items.length = 0 ∧ 2 ≤ kids.length ∧ kids.length ≤ 8 ∧ keys.length = kids.length - 1 ∧
  (∀ i (h : i < kids.length), 0 ≤ kids[i] ∧ kids[i] ≤ 2147483647 ∧ kids[i] ∉ kids.take i) ∧ ∀ i (h : i < keys.length), (1 ≤ keys[i].length ∧ keys[i].length ≤ 16) ∧ (0 < i → cmpL keys[i - 1] keys[i] < 0)
theorem C_wholeBranch {A K B : Option Addr} {items : List (By × By)} {kids : List Int} {keys : List By} {n q m c e d : Nat} (w : World) (hI : RI w A items) (hZ : RZ w K kids) (hK : RKy w B keys) (hn : n = items.length) (hq : q = kids.length) (hm : m = keys.length) (hl : LightI items) (hlz : kids.length ≤ 4000) (hlk : LightK keys) (hz : ∀ z ∈ kids, (Lit.int .i64 z).wf = true) (he : kids.length ≤ e) :
    CallsR Try.prog 62 [.agg #[.slice A n c, .slice K q e, .slice B m d]] w fun v w' => ∃ b, v = .bool b ∧ (b = true ↔ WholeB items kids keys) ∧ Below w.heap.size w w' := by
  subst hn; subst hq; subst hm
  obtain ⟨hl1, hl2⟩ := hl
  obtain ⟨hl3, hl4⟩ := hlk
  refine callsR Try.func62 rfl rfl (by kernel_rfl) rfl ?_
  have hw := Below.refl w.heap.size w
  refine rk_seq ?_
  refine rk_region ?_
  refine wl_boxg [_, _, _] rfl (by rfl) ?_
  rintro g1 w1 f1 b1 i1 i1_1
  have s1 := b1.size
  replace hw := hw.trans (b1.mono hw.size)
  refine wl_p (fun _ => o_assign rfl) ?_
  refine wl_nil ?_
  refine rk_seq ?_
  refine rk_seq ?_
  refine rk_region ?_
  refine wl_p (fun _ => o_faddr (s := 51) (i := 0) (off := 0) Try.underlying51 rfl Try.sizeOf22 rfl rfl rfl) ?_
  refine wl_r (o_loadbg Try.isAgg22 rfl f1 (by rfl)) ?_
  refine wl_p (fun _ => o_len (t := 22) Try.underlying22 rfl) ?_
  refine wl_p (fun _ => o_ne rfl rfl) ?_
  refine wl_p (fun _ => o_move rfl) ?_
  refine wl_bool 11 rfl (fun h11 => ?_) (fun h11 => ?_) <;> try simp only [decide_eq_true_eq, decide_eq_false_iff_not, Bool.not_eq_true', Bool.not_eq_false', Bool.and_eq_true, Bool.and_eq_false_iff, Bool.or_eq_true, Bool.or_eq_false_iff] at h11
  · refine wl_off ?_
    refine wl_off ?_
    refine wl_off ?_
    refine wl_off ?_
    refine wl_p (fun _ => o_pick_t rfl rfl) ?_
    refine wl_p (fun _ => o_move rfl) ?_
    refine wl_off ?_
    refine wl_off ?_
    refine wl_off ?_
    refine wl_off ?_
    refine wl_p (fun _ => o_pick_t rfl rfl) ?_
    refine wl_p (fun _ => o_move rfl) ?_
    refine wl_off ?_
    refine wl_off ?_
    refine wl_off ?_
    refine wl_off ?_
    refine wl_off ?_
    refine wl_off ?_
    refine wl_off ?_
    refine wl_off ?_
    refine wl_p (fun _ => o_pick_t rfl rfl) ?_
    refine wl_nil ?_
    refine rk_true rfl ?_
    refine rk_seq ?_
    refine rk_region ?_
    refine wl_p (fun _ => o_assign rfl) ?_
    refine wl_nil ?_
    refine ret1 rfl rfl ?_
    exact ⟨_, rfl, ⟨fun h => (by cases h), fun h => absurd h.1 (by omega)⟩, hw⟩
  refine wl_p (fun _ => o_faddr (s := 51) (i := 1) (off := 1) Try.underlying51 rfl Try.sizeOf23 rfl rfl rfl) ?_
  refine wl_r (o_loadbg Try.isAgg23 rfl f1 (by rfl)) ?_
  refine wl_p (fun _ => o_len (t := 23) Try.underlying23 rfl) ?_
  refine wl_p (fun _ => o_lt rfl rfl) ?_
  refine wl_p (fun _ => o_pick_f rfl rfl) ?_
  refine wl_p (fun _ => o_move rfl) ?_
  refine wl_bool 17 rfl (fun h17 => ?_) (fun h17 => ?_) <;> try simp only [decide_eq_true_eq, decide_eq_false_iff_not, Bool.not_eq_true', Bool.not_eq_false', Bool.and_eq_true, Bool.and_eq_false_iff, Bool.or_eq_true, Bool.or_eq_false_iff] at h17
  · refine wl_off ?_
    refine wl_off ?_
    refine wl_off ?_
    refine wl_off ?_
    refine wl_p (fun _ => o_pick_t rfl rfl) ?_
    refine wl_p (fun _ => o_move rfl) ?_
    refine wl_off ?_
    refine wl_off ?_
    refine wl_off ?_
    refine wl_off ?_
    refine wl_off ?_
    refine wl_off ?_
    refine wl_off ?_
    refine wl_off ?_
    refine wl_p (fun _ => o_pick_t rfl rfl) ?_
    refine wl_nil ?_
    refine rk_true rfl ?_
    refine rk_seq ?_
    refine rk_region ?_
    refine wl_p (fun _ => o_assign rfl) ?_
    refine wl_nil ?_
    refine ret1 rfl rfl ?_
    exact ⟨_, rfl, ⟨fun h => (by cases h), fun h => absurd h.2.1 (by omega)⟩, hw⟩
  refine wl_p (fun _ => o_faddr (s := 51) (i := 1) (off := 1) Try.underlying51 rfl Try.sizeOf23 rfl rfl rfl) ?_
  refine wl_r (o_loadbg Try.isAgg23 rfl f1 (by rfl)) ?_
  refine wl_p (fun _ => o_len (t := 23) Try.underlying23 rfl) ?_
  refine wl_p (fun _ => o_gt rfl rfl) ?_
  refine wl_p (fun _ => o_pick_f rfl rfl) ?_
  refine wl_p (fun _ => o_move rfl) ?_
  refine wl_bool 23 rfl (fun h23 => ?_) (fun h23 => ?_) <;> try simp only [decide_eq_true_eq, decide_eq_false_iff_not, Bool.not_eq_true', Bool.not_eq_false', Bool.and_eq_true, Bool.and_eq_false_iff, Bool.or_eq_true, Bool.or_eq_false_iff] at h23
  · refine wl_off ?_
    refine wl_off ?_
    refine wl_off ?_
    refine wl_off ?_
    refine wl_off ?_
    refine wl_off ?_
    refine wl_off ?_
    refine wl_off ?_
    refine wl_p (fun _ => o_pick_t rfl rfl) ?_
    refine wl_nil ?_
    refine rk_true rfl ?_
    refine rk_seq ?_
    refine rk_region ?_
    refine wl_p (fun _ => o_assign rfl) ?_
    refine wl_nil ?_
    refine ret1 rfl rfl ?_
    exact ⟨_, rfl, ⟨fun h => (by cases h), fun h => absurd h.2.2.1 (by omega)⟩, hw⟩
  refine wl_p (fun _ => o_faddr (s := 51) (i := 2) (off := 2) Try.underlying51 rfl Try.sizeOf24 rfl rfl rfl) ?_
  refine wl_r (o_loadbg Try.isAgg24 rfl f1 (by rfl)) ?_
  refine wl_p (fun _ => o_len (t := 24) Try.underlying24 rfl) ?_
  refine wl_p (fun _ => o_faddr (s := 51) (i := 1) (off := 1) Try.underlying51 rfl Try.sizeOf23 rfl rfl rfl) ?_
  refine wl_r (o_loadbg Try.isAgg23 rfl f1 (by rfl)) ?_
  refine wl_p (fun _ => o_len (t := 23) Try.underlying23 rfl) ?_
  refine wl_p (fun _ => o_sub rfl rfl (by omega) (by omega)) ?_
  refine wl_p (fun _ => o_ne rfl rfl) ?_
  refine wl_p (fun _ => o_pick_f rfl rfl) ?_
  refine wl_nil ?_
  refine rk_if rfl (fun h32 => ?_) (fun h32 => ?_)
  · refine rk_seq ?_
    refine rk_region ?_
    refine wl_p (fun _ => o_assign rfl) ?_
    refine wl_nil ?_
    refine ret1 rfl rfl ?_
    exact ⟨_, rfl, ⟨fun h => (by cases h), fun h => absurd h.2.2.2.1 (by omega)⟩, hw⟩
  refine rk_skip ?_
  refine rk_seq ?_
  refine rk_seq ?_
  refine rk_region ?_
  refine wl_p (fun _ => o_faddr (s := 51) (i := 1) (off := 1) Try.underlying51 rfl Try.sizeOf23 rfl rfl rfl) ?_
  refine wl_r (o_loadbg Try.isAgg23 rfl f1 (by rfl)) ?_
  refine wl_p (fun _ => o_len (t := 23) Try.underlying23 rfl) ?_
  refine wl_p (fun _ => o_move rfl) ?_
  refine wl_nil ?_
  refine rk_block ?_
  refine rk_joinf (fun fb fr w2 => fr = [] ++ fb.drop 1 ∧ (∀ i (h : i < kids.length), 0 ≤ kids[i] ∧ kids[i] ≤ 2147483647 ∧ kids[i] ∉ kids.take i) ∧ Below w1.heap.size w1 w2) ?_ (fun ks hj => ?_)
  rotate_left
  · refine rk_loopf (fun fb m fr w2 => ∃ (i : Nat) (v : Int), fr = [(36, .int .i64 v)] ++ fb ∧ v = i ∧ i ≤ kids.length ∧ m = kids.length - i ∧ (∀ j (h : j < kids.length), j < i → 0 ≤ kids[j] ∧ kids[j] ≤ 2147483647 ∧ kids[j] ∉ kids.take j) ∧ Below w1.heap.size w1 w2) (n := kids.length) (Fr.le_of (by kernel_rfl) (by kernel_rfl) (by repeat' constructor)) ⟨0, _, rfl, rfl, by omega, rfl, fun j _ h => absurd h (Nat.not_lt_zero _), Below.refl _ _⟩ ?_
    rintro m fr w2 ⟨i, v, rfl, rfl, hi, rfl, hok, hw1⟩
    first | refine rk_frame (by simp only [List.cons_append, List.nil_append, List.drop_succ_cons, List.drop_zero]; rfl) ?_ | refine wl_frame (by simp only [List.cons_append, List.nil_append, List.drop_succ_cons, List.drop_zero]; rfl) ?_
    have shw1 := hw1.size
    replace hw := hw.trans (hw1.mono hw.size)
    replace f1 := f1.u hw1
    refine rk_seq ?_
    refine rk_region ?_
    refine wl_p (fun _ => o_lt rfl rfl) ?_
    refine wl_nil ?_
    refine rk_seq ?_
    refine rk_if rfl (fun h37 => ?_) (fun h37 => ?_)
    · have hil : i < kids.length := by omega
      have hzi := hz _ (List.getElem_mem hil)
      refine rk_skip ?_
      refine rk_seq ?_
      refine rk_block ?_
      refine rk_seq ?_
      refine rk_region ?_
      refine wl_p (fun _ => o_move rfl) ?_
      refine wl_p (fun _ => (o_iaddrA1 (i) Try.underlying23 Try.sizeOf3 rfl rfl rfl (Reads.some_ hZ.to_Reads (by decide) (by omega)) (by omega))) ?_
      refine wl_r (o_loadZ Try.isAgg3 rfl (hZ.u hw).to_Reads (by omega)) ?_
      refine wl_p (fun _ => o_assign rfl) ?_
      refine wl_p (fun _ => o_assign rfl) ?_
      refine wl_nil ?_
      refine rk_seq ?_
      refine rk_region ?_
      refine wl_p (fun _ => o_move rfl) ?_
      refine wl_p (fun _ => o_lt rfl rfl) ?_
      refine wl_p (fun _ => o_move rfl) ?_
      refine wl_bool 43 rfl (fun h43 => ?_) (fun h43 => ?_) <;> try simp only [decide_eq_true_eq, decide_eq_false_iff_not, Bool.not_eq_true', Bool.not_eq_false', Bool.and_eq_true, Bool.and_eq_false_iff, Bool.or_eq_true, Bool.or_eq_false_iff] at h43
      · refine wl_off ?_
        refine wl_off ?_
        refine wl_p (fun _ => o_pick_t rfl rfl) ?_
        refine wl_p (fun _ => o_move rfl) ?_
        refine wl_off ?_
        refine wl_off ?_
        refine wl_off ?_
        refine wl_off ?_
        refine wl_off ?_
        refine wl_off ?_
        refine wl_p (fun _ => o_pick_t rfl rfl) ?_
        refine wl_nil ?_
        refine rk_true rfl ?_
        refine rk_seq ?_
        refine rk_region ?_
        refine wl_p (fun _ => o_assign rfl) ?_
        refine wl_nil ?_
        refine ret1 rfl rfl ?_
        exact ⟨_, rfl, ⟨fun h => (by cases h), fun h => absurd (h.2.2.2.2.1 i hil).1 (by omega)⟩, hw⟩
      refine wl_p (fun _ => o_move rfl) ?_
      refine wl_p (fun _ => o_gt rfl rfl) ?_
      refine wl_p (fun _ => o_pick_f rfl rfl) ?_
      refine wl_p (fun _ => o_move rfl) ?_
      refine wl_bool 47 rfl (fun h47 => ?_) (fun h47 => ?_) <;> try simp only [decide_eq_true_eq, decide_eq_false_iff_not, Bool.not_eq_true', Bool.not_eq_false', Bool.and_eq_true, Bool.and_eq_false_iff, Bool.or_eq_true, Bool.or_eq_false_iff] at h47
      · refine wl_off ?_
        refine wl_off ?_
        refine wl_off ?_
        refine wl_off ?_
        refine wl_off ?_
        refine wl_off ?_
        refine wl_p (fun _ => o_pick_t rfl rfl) ?_
        refine wl_nil ?_
        refine rk_true rfl ?_
        refine rk_seq ?_
        refine rk_region ?_
        refine wl_p (fun _ => o_assign rfl) ?_
        refine wl_nil ?_
        refine ret1 rfl rfl ?_
        exact ⟨_, rfl, ⟨fun h => (by cases h), fun h => absurd (h.2.2.2.2.1 i hil).2.1 (by omega)⟩, hw⟩
      refine wl_p (fun _ => o_faddr (s := 51) (i := 1) (off := 1) Try.underlying51 rfl Try.sizeOf23 rfl rfl rfl) ?_
      refine wl_r (o_loadbg Try.isAgg23 rfl f1 (by rfl)) ?_
      refine wl_p (fun _ => o_move rfl) ?_
      refine wl_slhiZ (i) rfl rfl (hZ.u hw) rfl rfl (by omega) (by omega) ?_
      rintro f51
      refine wl_p (fun _ => o_move rfl) ?_
      refine wl_call rfl (C_containsI _ f51 (by simp; omega) (by simp; omega)) ?_
      rintro v53 w53 ⟨rfl, rfl⟩
      refine wl_p (fun _ => o_pick_f rfl rfl) ?_
      refine wl_nil ?_
      refine rk_cond rfl (fun h54 => ?_) (fun h54 => ?_) <;> try simp only [decide_eq_true_eq, decide_eq_false_iff_not, Bool.not_eq_true', Bool.not_eq_false', Bool.and_eq_true, Bool.and_eq_false_iff, Bool.or_eq_true, Bool.or_eq_false_iff] at h54
      · have hin : kids[i] ∈ kids.take i := by simpa using h54
        refine rk_seq ?_
        refine rk_region ?_
        refine wl_p (fun _ => o_assign rfl) ?_
        refine wl_nil ?_
        refine ret1 rfl rfl ?_
        exact ⟨_, rfl, ⟨fun h => (by cases h), fun h => absurd hin (h.2.2.2.2.1 i hil).2.2⟩, hw⟩
      · have hin : kids[i] ∉ kids.take i := by simpa using h54
        refine rk_skip ?_
        refine rk_blk ?_
        refine rk_region ?_
        refine wl_p (fun _ => o_add rfl rfl (by omega) (by omega)) ?_
        refine wl_p (fun _ => o_move rfl) ?_
        refine wl_nil ?_
        exact rk_againf (Fr.le_of (by kernel_rfl) (by kernel_rfl) (by repeat' constructor)) ⟨i + 1, (i : Int) + 1, rfl, by omega, by omega, rfl, fun j hj hji => by
          rcases Nat.lt_or_ge j i with h | h
          · exact hok j hj h
          · obtain rfl : j = i := by omega
            exact ⟨by omega, by omega, hin⟩, hw1⟩ (by omega)
    · refine rk_exit rfl ?_
      exact rk_tof hj (Fr.le_of (by kernel_rfl) (by kernel_rfl) (by repeat' constructor)) ⟨rfl, fun j h => hok j h (by omega), hw1⟩
  rintro fr w2 ⟨rfl, hKd, hw1⟩
  first | refine rk_frame (by simp only [List.cons_append, List.nil_append, List.drop_succ_cons, List.drop_zero]; rfl) ?_ | refine wl_frame (by simp only [List.cons_append, List.nil_append, List.drop_succ_cons, List.drop_zero]; rfl) ?_
  have shw1 := hw1.size
  replace hw := hw.trans (hw1.mono hw.size)
  replace f1 := f1.u hw1
  refine rk_seq ?_
  refine rk_seq ?_
  refine rk_region ?_
  refine wl_p (fun _ => o_faddr (s := 51) (i := 2) (off := 2) Try.underlying51 rfl Try.sizeOf24 rfl rfl rfl) ?_
  refine wl_r (o_loadbg Try.isAgg24 rfl f1 (by rfl)) ?_
  refine wl_p (fun _ => o_len (t := 24) Try.underlying24 rfl) ?_
  refine wl_p (fun _ => o_move rfl) ?_
  refine wl_nil ?_
  refine rk_block ?_
  refine rk_joinf (fun fb fr w3 => fr = [] ++ fb.drop 1 ∧ (∀ i (h : i < keys.length), (1 ≤ keys[i].length ∧ keys[i].length ≤ 16) ∧ (0 < i → cmpL keys[i - 1] keys[i] < 0)) ∧ Below w2.heap.size w2 w3) ?_ (fun ks hj => ?_)
  rotate_left
  · refine rk_loopf (fun fb m fr w3 => ∃ (i : Nat) (v : Int), fr = [(59, .int .i64 v)] ++ fb ∧ v = i ∧ i ≤ keys.length ∧ m = keys.length - i ∧ (∀ j (h : j < keys.length), j < i → (1 ≤ keys[j].length ∧ keys[j].length ≤ 16) ∧ (0 < j → cmpL keys[j - 1] keys[j] < 0)) ∧ Below w2.heap.size w2 w3) (n := keys.length) (Fr.le_of (by kernel_rfl) (by kernel_rfl) (by repeat' constructor)) ⟨0, _, rfl, rfl, by omega, rfl, fun j _ h => absurd h (Nat.not_lt_zero _), Below.refl _ _⟩ ?_
    rintro m fr w3 ⟨i, v, rfl, rfl, hi, rfl, hok, hw2⟩
    first | refine rk_frame (by simp only [List.cons_append, List.nil_append, List.drop_succ_cons, List.drop_zero]; rfl) ?_ | refine wl_frame (by simp only [List.cons_append, List.nil_append, List.drop_succ_cons, List.drop_zero]; rfl) ?_
    have shw2 := hw2.size
    replace hw1 := hw1.trans (hw2.mono hw1.size)
    replace hw := hw.trans (hw2.mono hw.size)
    replace f1 := f1.u hw2
    refine rk_seq ?_
    refine rk_region ?_
    refine wl_p (fun _ => o_lt rfl rfl) ?_
    refine wl_nil ?_
    refine rk_seq ?_
    refine rk_if rfl (fun h60 => ?_) (fun h60 => ?_)
    · have hil : i < keys.length := by omega
      have n1 := hl4 _ (List.getElem_mem hil)
      refine rk_skip ?_
      refine rk_seq ?_
      refine rk_block ?_
      refine rk_seq ?_
      refine rk_region ?_
      refine wl_p (fun _ => o_move rfl) ?_
      refine wl_p (fun _ => (o_iaddrA1 (i) Try.underlying24 Try.sizeOf27 rfl rfl rfl (hK.some_ (by omega)) (by omega))) ?_
      refine wl_ldKy rfl hK hw (by omega) ?_
      rintro A163 c163 f63 i63
      refine wl_p (fun _ => o_assign rfl) ?_
      refine wl_p (fun _ => o_assign rfl) ?_
      refine wl_nil ?_
      refine rk_seq ?_
      refine rk_region ?_
      refine wl_p (fun _ => o_move rfl) ?_
      refine wl_call rfl (C_leafKey _ (by omega)) ?_
      rintro v65 w65 ⟨rfl, rfl⟩
      refine wl_p (fun _ => o_not rfl) ?_
      refine wl_p (fun _ => o_move rfl) ?_
      refine wl_bool 67 rfl (fun h67 => ?_) (fun h67 => ?_) <;> try simp only [decide_eq_true_eq, decide_eq_false_iff_not, Bool.not_eq_true', Bool.not_eq_false', Bool.and_eq_true, Bool.and_eq_false_iff, Bool.or_eq_true, Bool.or_eq_false_iff] at h67
      · refine wl_off ?_
        refine wl_off ?_
        refine wl_off ?_
        refine wl_off ?_
        refine wl_off ?_
        refine wl_off ?_
        refine wl_off ?_
        refine wl_off ?_
        refine wl_off ?_
        refine wl_off ?_
        refine wl_off ?_
        refine wl_off ?_
        refine wl_off ?_
        refine wl_p (fun _ => o_pick_t rfl rfl) ?_
        refine wl_nil ?_
        refine rk_true rfl ?_
        refine rk_seq ?_
        refine rk_region ?_
        refine wl_p (fun _ => o_assign rfl) ?_
        refine wl_nil ?_
        refine ret1 rfl rfl ?_
        exact ⟨_, rfl, ⟨fun h => (by cases h), fun h => absurd (h.2.2.2.2.2 i hil).1 h67⟩, hw⟩
      refine wl_p (fun _ => o_move rfl) ?_
      refine wl_p (fun _ => o_gt rfl rfl) ?_
      refine wl_p (fun _ => o_move rfl) ?_
      refine wl_bool 70 rfl (fun h70 => ?_) (fun h70 => ?_) <;> try simp only [decide_eq_true_eq, decide_eq_false_iff_not, Bool.not_eq_true', Bool.not_eq_false', Bool.and_eq_true, Bool.and_eq_false_iff, Bool.or_eq_true, Bool.or_eq_false_iff] at h70
      · have hi1 : i - 1 < keys.length := by omega
        have n3 := hl4 _ (List.getElem_mem hi1)
        refine wl_p (fun _ => o_faddr (s := 51) (i := 2) (off := 2) Try.underlying51 rfl Try.sizeOf24 rfl rfl rfl) ?_
        refine wl_r (o_loadbg Try.isAgg24 rfl f1 (by rfl)) ?_
        refine wl_p (fun _ => o_move rfl) ?_
        refine wl_p (fun _ => o_sub rfl rfl (by omega) (by omega)) ?_
        refine wl_p (fun _ => (o_iaddrA1 (i - 1) Try.underlying24 Try.sizeOf27 rfl rfl (by omega) (hK.some_ (by omega)) (by omega))) ?_
        refine wl_ldKy rfl hK hw (by omega) ?_
        rintro A176 c176 f76 i76
        refine wl_p (fun _ => o_move rfl) ?_
        refine wl_call rfl (C_leafCompare _ (f76.u hw) (f63.u hw) rfl rfl (by omega) (by omega)) ?_
        rintro v78 w78 ⟨rfl, b78⟩
        have s78 := b78.size
        replace hw2 := hw2.trans (b78.mono hw2.size)
        replace hw1 := hw1.trans (b78.mono hw1.size)
        replace hw := hw.trans (b78.mono hw.size)
        replace f1 := f1.u b78
        refine wl_p (fun _ => o_ge rfl rfl) ?_
        refine wl_p (fun _ => o_pick_t rfl rfl) ?_
        refine wl_p (fun _ => o_pick_f rfl rfl) ?_
        refine wl_nil ?_
        refine rk_if rfl (fun h81 => ?_) (fun h81 => ?_)
        · refine rk_seq ?_
          refine rk_region ?_
          refine wl_p (fun _ => o_assign rfl) ?_
          refine wl_nil ?_
          refine ret1 rfl rfl ?_
          exact ⟨_, rfl, ⟨fun h => (by cases h), fun h => absurd ((h.2.2.2.2.2 i hil).2 (by omega)) (by omega)⟩, hw⟩
        · refine rk_skip ?_
          refine rk_blk ?_
          refine rk_region ?_
          refine wl_p (fun _ => o_add rfl rfl (by omega) (by omega)) ?_
          refine wl_p (fun _ => o_move rfl) ?_
          refine wl_nil ?_
          exact rk_againf (Fr.le_of (by kernel_rfl) (by kernel_rfl) (by repeat' constructor)) ⟨i + 1, (i : Int) + 1, rfl, by omega, by omega, rfl, fun j hj hji => by
            rcases Nat.lt_or_ge j i with h | h
            · exact hok j hj h
            · obtain rfl : j = i := by omega
              exact ⟨h67, fun _ => by omega⟩, hw2⟩ (by omega)
      · refine wl_off ?_
        refine wl_off ?_
        refine wl_off ?_
        refine wl_off ?_
        refine wl_off ?_
        refine wl_off ?_
        refine wl_off ?_
        refine wl_off ?_
        refine wl_off ?_
        refine wl_p (fun _ => o_pick_f rfl rfl) ?_
        refine wl_p (fun _ => o_pick_f rfl rfl) ?_
        refine wl_nil ?_
        refine rk_false rfl ?_
        refine rk_skip ?_
        refine rk_blk ?_
        refine rk_region ?_
        refine wl_p (fun _ => o_add rfl rfl (by omega) (by omega)) ?_
        refine wl_p (fun _ => o_move rfl) ?_
        refine wl_nil ?_
        exact rk_againf (Fr.le_of (by kernel_rfl) (by kernel_rfl) (by repeat' constructor)) ⟨i + 1, (i : Int) + 1, rfl, by omega, by omega, rfl, fun j hj hji => by
          rcases Nat.lt_or_ge j i with h | h
          · exact hok j hj h
          · obtain rfl : j = i := by omega
            exact ⟨h67, fun h0 => absurd h0 (by omega)⟩, hw2⟩ (by omega)
    · refine rk_exit rfl ?_
      exact rk_tof hj (Fr.le_of (by kernel_rfl) (by kernel_rfl) (by repeat' constructor)) ⟨rfl, fun j h => hok j h (by omega), hw2⟩
  rintro fr w3 ⟨rfl, hW, hw2⟩
  first | refine rk_frame (by simp only [List.cons_append, List.nil_append, List.drop_succ_cons, List.drop_zero]; rfl) ?_ | refine wl_frame (by simp only [List.cons_append, List.nil_append, List.drop_succ_cons, List.drop_zero]; rfl) ?_
  have shw2 := hw2.size
  replace hw1 := hw1.trans (hw2.mono hw1.size)
  replace hw := hw.trans (hw2.mono hw.size)
  replace f1 := f1.u hw2
  refine rk_seq ?_
  refine rk_region ?_
  refine wl_p (fun _ => o_assign rfl) ?_
  refine wl_nil ?_
  refine ret1 rfl rfl ?_
  exact ⟨_, rfl, ⟨fun _ => ⟨by omega, by omega, by omega, by omega, hKd, hW⟩, fun _ => rfl⟩, hw⟩
end Go.Proofs.Ytchcpnfafgiifaa
