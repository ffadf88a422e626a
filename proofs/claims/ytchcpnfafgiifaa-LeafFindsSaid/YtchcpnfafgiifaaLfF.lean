/-
  The statement LeafFinds: its arguments, its walk.
-/
import Derived.Test.YtchcpnfafgiifaaLfE
namespace Go.Proofs.Ytchcpnfafgiifaa
open Go.RowKit
abbrev Nd := List (By × By) × List Int × List By
def gNode : GoT Nd := (GoT.slice 31 gItem).pair ((GoT.slice 3 (gInt .i64)).pair (GoT.slice 27 gBytes))
theorem opens_Node : Opens Try.prog 26 gNode :=
  have hb : Opens Try.prog 27 gBytes := opens_bytes Try.underlying27 Try.underlying5 (by kernel_rfl) (by kernel_rfl)
  have hI : Opens Try.prog 31 gItem := opens_struct Try.underlying31 (by kernel_rfl) (.more hb rfl (.one hb rfl))
  opens_struct Try.underlying26 (by kernel_rfl)
    (.more (opens_slice Try.underlying22 (by kernel_rfl) (by decide) hI) rfl
      (.more (opens_slice Try.underlying23 (by kernel_rfl) (by decide) (opens_int Try.underlying3 (by kernel_rfl))) rfl
        (.one (opens_slice Try.underlying24 (by kernel_rfl) (by decide) hb) rfl)))
theorem rsl_nums {w : World} {A : Option Addr} {L : List Int} (h : RSl (gInt .i64) w A L) : RZ w A L ∧ ∀ z ∈ L, (Lit.int .i64 z).wf = true := by
  obtain ⟨xs, h1, h2⟩ := h
  have hl : xs.length = L.length := by rw [h1.1]; exact Nat.mul_one _
  have e : xs = L.map (Value.int .i64) := by
    apply List.ext_getElem (by rw [hl, List.length_map])
    intro i h3 h4
    obtain ⟨h5, _⟩ := h2 i (by omega)
    have h6 := part_get (xs := xs) (m := 1) (i := i) (j := 0) (by omega)
    have h7 : part xs (gInt .i64).sz i = part xs 1 i := rfl
    rw [h7] at h5
    rw [h5, Nat.mul_one, Nat.add_zero, List.getElem?_eq_getElem h3] at h6
    rw [List.getElem_map]
    simpa using h6.symm
  subst e
  refine ⟨h1, fun z hz => ?_⟩
  obtain ⟨i, hi, rfl⟩ := List.getElem_of_mem hz
  exact (h2 i hi).2
/-- A node as a value. -/
def NdV (w : World) (p : Nd) (v : Value) : Prop := ∃ A c K e B d, v = .agg #[.slice A p.1.length c, .slice K p.2.1.length e, .slice B p.2.2.length d] ∧ RI w A p.1 ∧ RZ w K p.2.1 ∧ RKy w B p.2.2 ∧ p.2.1.length ≤ e ∧ ∀ z ∈ p.2.1, (Lit.int .i64 z).wf = true
--@ arg api.TreeNode arg_Node
theorem arg_Node {H : Type} {enc : TypeId × Value → H} {W : World} {base : Nat} {v : Value} {d : DataW H} {p : List MemPlace} (hok : Value.okWide Try.prog W .any base 26 v) (h : DataW.Trod enc Try.prog W 0 (fun _ => true) true 26 v d p) :
    ∃ p : Nd, NdV W p v := by
  obtain ⟨cs, a, rfl, c1, c2, rfl, h1, c3, c4, rfl, h2, h3⟩ := open_agg opens_Node (.inl ⟨_, Try.underlying26⟩) hok h
  obtain ⟨A, c, rfl, hA, _⟩ := slice_RSl h1
  obtain ⟨K, e, rfl, hK, he, _⟩ := slice_RSl h2
  obtain ⟨B, d, rfl, hB, _⟩ := slice_RSl h3
  exact ⟨a, A, c, K, e, B, d, rfl, hA, (rsl_nums hK).1, hB, he, (rsl_nums hK).2⟩

/-! What is ordered. -/
theorem count_cut {α : Type} (p : α → Bool) : ∀ (l : List α) (k : Nat), k ≤ l.length → (∀ j (h : j < l.length), j < k → p l[j] = true) → (∀ j (h : j < l.length), k ≤ j → p l[j] = false) → l.countP p = k
  | [], k, hk, _, _ => by simp at hk; simp [hk]
  | x :: l, 0, _, _, h2 => by
    rw [List.countP_eq_zero]
    intro y hy
    obtain ⟨j, hj, rfl⟩ := List.getElem_of_mem hy
    simp [h2 j hj (Nat.zero_le _)]
  | x :: l, k + 1, hk, h1, h2 => by
    have h0 : p x = true := h1 0 (by simp) (by omega)
    rw [List.countP_cons_of_pos h0, count_cut p l k (by simpa using hk) (fun j hj hjk => h1 (j + 1) (by simpa using hj) (by omega)) (fun j hj hjk => h2 (j + 1) (by simpa using hj) (by omega))]
theorem cmpL_chain {l : List By} (h : ∀ i (h : i < l.length), 0 < i → cmpL l[i - 1] l[i] < 0) : ∀ (j i : Nat) (hj : j < l.length) (hij : i < j), cmpL l[i] l[j] < 0
  | 0, i, _, hij => absurd hij (Nat.not_lt_zero _)
  | j + 1, i, hj, hij => by
    have h1 := h (j + 1) hj (by omega)
    simp only [Nat.add_sub_cancel] at h1
    rcases Nat.lt_or_ge i j with h2 | h2
    · exact cmpL_trans _ _ _ (cmpL_chain h j i (by omega) h2) h1
    · obtain rfl : i = j := by omega
      exact h1
theorem find_law {l : List By} {key : By} {k : Nat} {ok : Bool} (h : ∀ i (h : i < l.length), 0 < i → cmpL l[i - 1] l[i] < 0) (hk : k ≤ l.length) (h1 : ∀ j (h : j < l.length), j < k → cmpL l[j] key < 0) (h2 : ∀ h : k < l.length, 0 ≤ cmpL l[k] key ∧ (ok = true ↔ cmpL l[k] key = 0)) (h3 : k = l.length → ok = false) :
    l.countP (fun x => decide (cmpL x key < 0)) = k ∧ l.any (fun x => decide (x = key)) = ok := by
  have hge : ∀ j (h : j < l.length), k < j → 0 < cmpL l[j] key := fun j hj hkj => by
    have h4 := cmpL_chain h j k hj hkj
    have h5 := (h2 (by omega)).1
    rcases Int.lt_or_le 0 (cmpL l[j] key) with h6 | h6
    · exact h6
    · rcases Int.lt_or_eq_of_le h6 with h7 | h7
      · have := cmpL_trans _ _ _ h4 h7; omega
      · rw [(cmpL_zero _ _).1 h7] at h4; omega
  constructor
  · refine count_cut _ l k hk (fun j hj hjk => by simpa using h1 j hj hjk) (fun j hj hjk => ?_)
    rcases Nat.lt_or_eq_of_le hjk with h4 | h4
    · have := hge j hj h4; simp; omega
    · subst h4; have := (h2 hj).1; simp; omega
  · rw [Bool.eq_iff_iff, List.any_eq_true]
    constructor
    · rintro ⟨x, hx, he⟩
      obtain ⟨j, hj, rfl⟩ := List.getElem_of_mem hx
      have he : l[j] = key := by simpa using he
      have h0 := (cmpL_zero _ _).2 he
      rcases Nat.lt_trichotomy j k with h4 | h4 | h4
      · have := h1 j hj h4; omega
      · subst h4; exact (h2 hj).2.2 h0
      · have := hge j hj h4; omega
    · intro hok
      have hkl : k < l.length := by
        rcases Nat.lt_or_ge k l.length with h4 | h4
        · exact h4
        · rw [h3 (by omega)] at hok; cases hok
      exact ⟨l[k], List.getElem_mem hkl, by simpa using (cmpL_zero _ _).1 ((h2 hkl).2.1 hok)⟩
theorem kid_law {l : List By} {key : By} {k : Nat} (h : ∀ i (h : i < l.length), 0 < i → cmpL l[i - 1] l[i] < 0) (hk : k ≤ l.length) (h1 : ∀ j (h : j < l.length), j < k → cmpL l[j] key ≤ 0) (h2 : ∀ h : k < l.length, 0 < cmpL l[k] key) :
    l.countP (fun x => decide (cmpL x key ≤ 0)) = k := by
  refine count_cut _ l k hk (fun j hj hjk => by simpa using h1 j hj hjk) (fun j hj hjk => ?_)
  rcases Nat.lt_or_eq_of_le hjk with h4 | h4
  · have h5 := cmpL_chain h j k hj h4
    have h6 := h2 (by omega)
    suffices 0 < cmpL l[j] key by simp; omega
    rcases Int.lt_or_le 0 (cmpL l[j] key) with h7 | h7
    · exact h7
    · rcases Int.lt_or_eq_of_le h7 with h8 | h8
      · have := cmpL_trans _ _ _ h5 h8; omega
      · rw [(cmpL_zero _ _).1 h8] at h5; omega
  · subst h4; have := h2 hj; simp; omega

set_option maxHeartbeats 1000000 in
theorem C_LeafFinds (w : World) (v : Value) (p : Nd) (hp : NdV w p v) (C : Option Addr) (g : Nat) (key : By) (hC : Rd w C key) (_hg : key.length ≤ g) (_hm : g ≤ maxLen) (D : Option Addr) (r : Nat) (a : By) (hD : Rd w D a) (_hr : a.length ≤ r) (_hm2 : r ≤ maxLen) (E : Option Addr) (s : Nat) (b : By) (hE : Rd w E b) (_hs : b.length ≤ s) (_hm3 : s ≤ maxLen) :
    CallsR Try.prog 3 [v, .slice C key.length g, .slice D a.length r, .slice E b.length s] w fun v w' => v = .bool true ∧ Below w.heap.size w w' := by
  obtain ⟨items, kids, keys⟩ := p
  obtain ⟨A, c, K, e, B, d, rfl, hI, hZ, hK, he, hz⟩ := hp
  dsimp only at hI hZ hK he hz
  dsimp only
  refine callsR Try.func3 rfl rfl (by kernel_rfl) rfl ?_
  have hw := Below.refl w.heap.size w
  refine rk_seq ?_
  refine rk_region ?_
  refine wl_boxg [_, _, _] rfl (by rfl) ?_
  rintro g4 w4 f4 b4 i4 i4_1
  have s4 := b4.size
  replace hw := hw.trans (b4.mono hw.size)
  refine wl_p (fun _ => o_assign rfl) ?_
  refine wl_nil ?_
  refine rk_seq ?_
  refine rk_seq ?_
  refine rk_region ?_
  refine wl_call rfl (C_lives11 _) ?_
  rintro v18 w18 ⟨rfl, b18⟩
  have s18 := b18.size
  replace hw := hw.trans (b18.mono hw.size)
  replace f4 := f4.u b18
  refine wl_p (fun _ => o_not rfl) ?_
  refine wl_nil ?_
  refine rk_false rfl ?_
  refine rk_skip ?_
  refine rk_seq ?_
  refine rk_seq ?_
  refine rk_region ?_
  refine wl_r (o_loadag Try.isAgg26 Try.sizeOf26 rfl f4 (by rfl)) ?_
  refine wl_call rfl (C_LightNode _ (hI.u hw) (hK.u hw) rfl (by rfl) rfl) ?_
  rintro v21 w21 ⟨b21, ⟨rfl, ⟨i21, b21_1⟩⟩⟩
  have s21 := b21_1.size
  replace hw := hw.trans (b21_1.mono hw.size)
  replace f4 := f4.u b21_1
  refine wl_p (fun _ => o_not rfl) ?_
  refine wl_p (fun _ => o_move rfl) ?_
  refine wl_bool 23 rfl (fun h23 => ?_) (fun h23 => ?_) <;> try simp only [decide_eq_true_eq, decide_eq_false_iff_not, Bool.not_eq_true', Bool.not_eq_false', Bool.and_eq_true, Bool.and_eq_false_iff, Bool.or_eq_true, Bool.or_eq_false_iff] at h23
  · refine wl_off ?_
    refine wl_off ?_
    refine wl_off ?_
    refine wl_p (fun _ => o_pick_t rfl rfl) ?_
    refine wl_p (fun _ => o_move rfl) ?_
    refine wl_off ?_
    refine wl_off ?_
    refine wl_off ?_
    refine wl_p (fun _ => o_pick_t rfl rfl) ?_
    refine wl_p (fun _ => o_move rfl) ?_
    refine wl_off ?_
    refine wl_off ?_
    refine wl_off ?_
    refine wl_p (fun _ => o_pick_t rfl rfl) ?_
    refine wl_nil ?_
    refine rk_true rfl ?_
    refine rk_seq ?_
    refine rk_region ?_
    refine wl_p (fun _ => o_assign rfl) ?_
    refine wl_nil ?_
    refine ret1 rfl rfl ?_
    exact ⟨rfl, hw⟩
  have hN : LightN items kids keys := i21.1 h23
  refine wl_p (fun _ => o_move rfl) ?_
  refine wl_p (fun _ => o_len (t := 27) Try.underlying27 rfl) ?_
  refine wl_p (fun _ => o_gt rfl rfl) ?_
  refine wl_p (fun _ => o_pick_f rfl rfl) ?_
  refine wl_p (fun _ => o_move rfl) ?_
  refine wl_bool 28 rfl (fun h28 => ?_) (fun h28 => ?_) <;> try simp only [decide_eq_true_eq, decide_eq_false_iff_not, Bool.not_eq_true', Bool.not_eq_false', Bool.and_eq_true, Bool.and_eq_false_iff, Bool.or_eq_true, Bool.or_eq_false_iff] at h28
  · refine wl_off ?_
    refine wl_off ?_
    refine wl_off ?_
    refine wl_p (fun _ => o_pick_t rfl rfl) ?_
    refine wl_p (fun _ => o_move rfl) ?_
    refine wl_off ?_
    refine wl_off ?_
    refine wl_off ?_
    refine wl_p (fun _ => o_pick_t rfl rfl) ?_
    refine wl_nil ?_
    refine rk_true rfl ?_
    refine rk_seq ?_
    refine rk_region ?_
    refine wl_p (fun _ => o_assign rfl) ?_
    refine wl_nil ?_
    refine ret1 rfl rfl ?_
    exact ⟨rfl, hw⟩
  refine wl_p (fun _ => o_move rfl) ?_
  refine wl_p (fun _ => o_len (t := 27) Try.underlying27 rfl) ?_
  refine wl_p (fun _ => o_gt rfl rfl) ?_
  refine wl_p (fun _ => o_pick_f rfl rfl) ?_
  refine wl_p (fun _ => o_move rfl) ?_
  refine wl_bool 33 rfl (fun h33 => ?_) (fun h33 => ?_) <;> try simp only [decide_eq_true_eq, decide_eq_false_iff_not, Bool.not_eq_true', Bool.not_eq_false', Bool.and_eq_true, Bool.and_eq_false_iff, Bool.or_eq_true, Bool.or_eq_false_iff] at h33
  · refine wl_off ?_
    refine wl_off ?_
    refine wl_off ?_
    refine wl_p (fun _ => o_pick_t rfl rfl) ?_
    refine wl_nil ?_
    refine rk_true rfl ?_
    refine rk_seq ?_
    refine rk_region ?_
    refine wl_p (fun _ => o_assign rfl) ?_
    refine wl_nil ?_
    refine ret1 rfl rfl ?_
    exact ⟨rfl, hw⟩
  refine wl_p (fun _ => o_move rfl) ?_
  refine wl_p (fun _ => o_len (t := 27) Try.underlying27 rfl) ?_
  refine wl_p (fun _ => o_gt rfl rfl) ?_
  refine wl_p (fun _ => o_pick_f rfl rfl) ?_
  refine wl_nil ?_
  refine rk_if rfl (fun h37 => ?_) (fun h37 => ?_)
  · refine rk_seq ?_
    refine rk_region ?_
    refine wl_p (fun _ => o_assign rfl) ?_
    refine wl_nil ?_
    refine ret1 rfl rfl ?_
    exact ⟨rfl, hw⟩
  obtain ⟨n1, n2, n3, n4, n5⟩ := hN
  have hl : LightI items := ⟨by omega, fun x hx => by have := n4 x hx; omega⟩
  have hlk : LightK keys := ⟨by omega, fun x hx => by have := n5 x hx; omega⟩
  refine rk_skip ?_
  refine rk_seq ?_
  refine rk_region ?_
  refine wl_p (fun _ => o_assign rfl) ?_
  refine wl_nil ?_
  refine rk_seq ?_
  refine rk_region ?_
  refine wl_p (fun _ => o_assign rfl) ?_
  refine wl_nil ?_
  refine rk_seq ?_
  refine rk_seq ?_
  refine rk_region ?_
  refine wl_p (fun _ => o_assign rfl) ?_
  refine wl_nil ?_
  refine rk_block ?_
  refine rk_joinf (fun fb fr w3 => ∃ (cn : Int) (th : Bool), fr = [(9, .int .i64 cn), (10, .bool th)] ++ fb.drop 3 ∧ cn = (items.countP (fun x : By × By => decide (cmpL x.1 key < 0)) : Nat) ∧ th = items.any (fun x : By × By => decide (x.1 = key)) ∧ Below w21.heap.size w21 w3) ?_ (fun ks hj => ?_)
  rotate_left
  · refine rk_loopf (fun fb m fr w3 => ∃ (i : Nat) (v : Int) (cn : Int) (th : Bool), fr = [(11, .int .i64 v), (10, .bool th), (9, .int .i64 cn)] ++ fb.drop 3 ∧ v = i ∧ i ≤ items.length ∧ m = items.length - i ∧ cn = ((items.take i).countP (fun x : By × By => decide (cmpL x.1 key < 0)) : Nat) ∧ th = (items.take i).any (fun x : By × By => decide (x.1 = key)) ∧ Below w21.heap.size w21 w3) (n := items.length) (Fr.le_of (by kernel_rfl) (by kernel_rfl) (by repeat' constructor)) ⟨0, _, _, _, rfl, rfl, by omega, rfl, rfl, rfl, Below.refl _ _⟩ ?_
    rintro m fr w3 ⟨i, v, cn, th, rfl, rfl, hi, rfl, hcn, hth, hw1⟩
    first | refine rk_frame (by simp only [List.cons_append, List.nil_append, List.drop_succ_cons, List.drop_zero]; rfl) ?_ | refine wl_frame (by simp only [List.cons_append, List.nil_append, List.drop_succ_cons, List.drop_zero]; rfl) ?_
    have shw1 := hw1.size
    replace hw := hw.trans (hw1.mono hw.size)
    replace f4 := f4.u hw1
    have hci : 0 ≤ cn ∧ cn ≤ 40 := by
      have : ((items.take i).countP (fun x : By × By => decide (cmpL x.1 key < 0))) ≤ (items.take i).length := List.countP_le_length
      rw [List.length_take] at this; omega
    refine rk_seq ?_
    refine rk_seq ?_
    refine rk_region ?_
    refine wl_p (fun _ => o_move rfl) ?_
    refine wl_p (fun _ => o_faddr (s := 26) (i := 0) (off := 0) Try.underlying26 rfl Try.sizeOf22 rfl rfl rfl) ?_
    refine wl_r (o_loadbg Try.isAgg22 rfl f4 (by rfl)) ?_
    refine wl_p (fun _ => o_len (t := 22) Try.underlying22 rfl) ?_
    refine wl_p (fun _ => o_lt rfl rfl) ?_
    refine wl_nil ?_
    refine rk_if rfl (fun h42 => ?_) (fun h42 => ?_)
    · have hil : i < items.length := by omega
      have hs1 : (items.take (i + 1)).countP (fun x : By × By => decide (cmpL x.1 key < 0)) = (items.take i).countP (fun x : By × By => decide (cmpL x.1 key < 0)) + (if cmpL items[i].1 key < 0 then 1 else 0) := by
        rw [List.take_succ_eq_append_getElem hil, List.countP_append, List.countP_singleton]; simp
      have hs2 : (items.take (i + 1)).any (fun x : By × By => decide (x.1 = key)) = ((items.take i).any (fun x : By × By => decide (x.1 = key)) || decide (items[i].1 = key)) := by
        rw [List.take_succ_eq_append_getElem hil, List.any_append]; simp
      refine rk_skip ?_
      refine rk_seq ?_
      refine rk_block ?_
      refine rk_seq ?_
      refine rk_seq ?_
      refine rk_draw (id := 10) (none) [0, 1, 0, 6, 8, 16, 32, 0, 128, 320] [0, 1, 0, 7, 15, 31, 63, 0, 128, 511] 0 0 [(.p, 0), (.r, 1), (.p, 2), (.p, 3), (.p, 4), (.r, 5), (.r, 6), (.p, 7), (.r, 8), (.p, 9)] (by kernel_rfl) (by kernel_rfl) (by kernel_rfl) (by kernel_rfl) (by kernel_rfl) ?_
      replace hw1 := hw1.drew
      replace hw := hw.drew
      replace f4 := f4.d
      refine wl_p (fun _ => o_faddr (s := 26) (i := 0) (off := 0) Try.underlying26 rfl Try.sizeOf22 rfl rfl rfl) ?_
      refine wl_r (o_loadbg Try.isAgg22 rfl f4 (by rfl)) ?_
      refine wl_p (fun _ => o_move rfl) ?_
      refine wl_p (fun _ => (o_iaddrA (i) Try.underlying22 Try.sizeOf31 rfl rfl rfl (hI.some_ (by omega)) (by omega))) ?_
      refine wl_p (fun _ => (o_faddrR rfl Try.underlying31 (by rfl) Try.sizeOf27 (by rfl) (by rfl))) ?_
      refine wl_ldKey rfl hI hw (by omega) ?_
      rintro A150 c150 f50 i50
      refine wl_r (o_strU Try.underlying27 Try.underlying5 Try.underlying9 rfl f50 hw rfl) ?_
      refine wl_p (fun _ => o_move rfl) ?_
      refine wl_r (o_strU Try.underlying27 Try.underlying5 Try.underlying9 rfl hC hw rfl) ?_
      refine wl_p (fun _ => o_slss rfl rfl) ?_
      refine wl_nild ?_
      refine rk_if rfl (fun h54 => ?_) (fun h54 => ?_)
      · rw [if_pos h54] at hs1
        refine rk_region ?_
        refine wl_p (fun _ => o_move rfl) ?_
        refine wl_p (fun _ => o_add rfl rfl (by omega) (by omega)) ?_
        refine wl_p (fun _ => o_assign rfl) ?_
        refine wl_nil ?_
        refine rk_draw (id := 12) (none) [0, 1, 2, 6, 2, 26, 34, 66, 130, 2, 514, 1282, 2050, 8191] [0, 1, 3, 7, 3, 31, 63, 127, 255, 3, 515, 2047, 4095, 8191] 0 0 [(.p, 0), (.p, 1), (.p, 2), (.r, 3), (.p, 4), (.p, 5), (.p, 6), (.r, 7), (.r, 8), (.p, 9), (.r, 10), (.p, 11), (.p, 12), (.p, 13)] (by kernel_rfl) (by kernel_rfl) (by kernel_rfl) (by kernel_rfl) (by kernel_rfl) ?_
        replace hw1 := hw1.drew
        replace hw := hw.drew
        replace f4 := f4.d
        refine wl_p (fun _ => o_move rfl) ?_
        refine wl_p (fun _ => o_move rfl) ?_
        refine wl_bool 58 rfl (fun h58 => ?_) (fun h58 => ?_) <;> try simp only [decide_eq_true_eq, decide_eq_false_iff_not, Bool.not_eq_true', Bool.not_eq_false', Bool.and_eq_true, Bool.and_eq_false_iff, Bool.or_eq_true, Bool.or_eq_false_iff] at h58
        · refine wl_off ?_
          refine wl_off ?_
          refine wl_off ?_
          refine wl_off ?_
          refine wl_off ?_
          refine wl_off ?_
          refine wl_off ?_
          refine wl_off ?_
          refine wl_off ?_
          refine wl_off ?_
          refine wl_p (fun _ => o_pick_t rfl rfl) ?_
          refine wl_p (fun _ => o_assign rfl) ?_
          refine wl_nild ?_
          refine rk_blk ?_
          refine rk_region ?_
          refine wl_p (fun _ => o_move rfl) ?_
          refine wl_p (fun _ => o_add rfl rfl (by omega) (by omega)) ?_
          refine wl_p (fun _ => o_assign rfl) ?_
          refine wl_nil ?_
          exact rk_againf (Fr.le_of (by kernel_rfl) (by kernel_rfl) (by repeat' constructor)) ⟨i + 1, (i : Int) + 1, _, _, rfl, by omega, by omega, rfl, by omega, by rw [hs2, ← hth, h58]; rfl, hw1⟩ (by omega)
        · refine wl_p (fun _ => o_faddr (s := 26) (i := 0) (off := 0) Try.underlying26 rfl Try.sizeOf22 rfl rfl rfl) ?_
          refine wl_r (o_loadbg Try.isAgg22 rfl f4 (by rfl)) ?_
          refine wl_p (fun _ => o_move rfl) ?_
          refine wl_p (fun _ => (o_iaddrA (i) Try.underlying22 Try.sizeOf31 rfl rfl rfl (hI.some_ (by omega)) (by omega))) ?_
          refine wl_p (fun _ => (o_faddrR rfl Try.underlying31 (by rfl) Try.sizeOf27 (by rfl) (by rfl))) ?_
          refine wl_ldKey rfl hI hw (by omega) ?_
          rintro A164 c164 f64 i64
          refine wl_r (o_strU Try.underlying27 Try.underlying5 Try.underlying9 rfl f64 hw rfl) ?_
          refine wl_p (fun _ => o_move rfl) ?_
          refine wl_r (o_strU Try.underlying27 Try.underlying5 Try.underlying9 rfl hC hw rfl) ?_
          refine wl_p (fun _ => o_seq rfl rfl) ?_
          refine wl_p (fun _ => o_pick_f rfl rfl) ?_
          refine wl_p (fun _ => o_assign rfl) ?_
          refine wl_nild ?_
          refine rk_blk ?_
          refine rk_region ?_
          refine wl_p (fun _ => o_move rfl) ?_
          refine wl_p (fun _ => o_add rfl rfl (by omega) (by omega)) ?_
          refine wl_p (fun _ => o_assign rfl) ?_
          refine wl_nil ?_
          exact rk_againf (Fr.le_of (by kernel_rfl) (by kernel_rfl) (by repeat' constructor)) ⟨i + 1, (i : Int) + 1, _, _, rfl, by omega, by omega, rfl, by omega, by rw [hs2, ← hth, h58]; rfl, hw1⟩ (by omega)
      · rw [if_neg h54] at hs1
        refine rk_skip ?_
        refine rk_draw (id := 12) (none) [0, 1, 2, 6, 2, 26, 34, 66, 130, 2, 514, 1282, 2050, 8191] [0, 1, 3, 7, 3, 31, 63, 127, 255, 3, 515, 2047, 4095, 8191] 0 0 [(.p, 0), (.p, 1), (.p, 2), (.r, 3), (.p, 4), (.p, 5), (.p, 6), (.r, 7), (.r, 8), (.p, 9), (.r, 10), (.p, 11), (.p, 12), (.p, 13)] (by kernel_rfl) (by kernel_rfl) (by kernel_rfl) (by kernel_rfl) (by kernel_rfl) ?_
        replace hw1 := hw1.drew
        replace hw := hw.drew
        replace f4 := f4.d
        refine wl_p (fun _ => o_move rfl) ?_
        refine wl_p (fun _ => o_move rfl) ?_
        refine wl_bool 58 rfl (fun h58 => ?_) (fun h58 => ?_) <;> try simp only [decide_eq_true_eq, decide_eq_false_iff_not, Bool.not_eq_true', Bool.not_eq_false', Bool.and_eq_true, Bool.and_eq_false_iff, Bool.or_eq_true, Bool.or_eq_false_iff] at h58
        · refine wl_off ?_
          refine wl_off ?_
          refine wl_off ?_
          refine wl_off ?_
          refine wl_off ?_
          refine wl_off ?_
          refine wl_off ?_
          refine wl_off ?_
          refine wl_off ?_
          refine wl_off ?_
          refine wl_p (fun _ => o_pick_t rfl rfl) ?_
          refine wl_p (fun _ => o_assign rfl) ?_
          refine wl_nild ?_
          refine rk_blk ?_
          refine rk_region ?_
          refine wl_p (fun _ => o_move rfl) ?_
          refine wl_p (fun _ => o_add rfl rfl (by omega) (by omega)) ?_
          refine wl_p (fun _ => o_assign rfl) ?_
          refine wl_nil ?_
          exact rk_againf (Fr.le_of (by kernel_rfl) (by kernel_rfl) (by repeat' constructor)) ⟨i + 1, (i : Int) + 1, _, _, rfl, by omega, by omega, rfl, by omega, by rw [hs2, ← hth, h58]; rfl, hw1⟩ (by omega)
        · refine wl_p (fun _ => o_faddr (s := 26) (i := 0) (off := 0) Try.underlying26 rfl Try.sizeOf22 rfl rfl rfl) ?_
          refine wl_r (o_loadbg Try.isAgg22 rfl f4 (by rfl)) ?_
          refine wl_p (fun _ => o_move rfl) ?_
          refine wl_p (fun _ => (o_iaddrA (i) Try.underlying22 Try.sizeOf31 rfl rfl rfl (hI.some_ (by omega)) (by omega))) ?_
          refine wl_p (fun _ => (o_faddrR rfl Try.underlying31 (by rfl) Try.sizeOf27 (by rfl) (by rfl))) ?_
          refine wl_ldKey rfl hI hw (by omega) ?_
          rintro A164 c164 f64 i64
          refine wl_r (o_strU Try.underlying27 Try.underlying5 Try.underlying9 rfl f64 hw rfl) ?_
          refine wl_p (fun _ => o_move rfl) ?_
          refine wl_r (o_strU Try.underlying27 Try.underlying5 Try.underlying9 rfl hC hw rfl) ?_
          refine wl_p (fun _ => o_seq rfl rfl) ?_
          refine wl_p (fun _ => o_pick_f rfl rfl) ?_
          refine wl_p (fun _ => o_assign rfl) ?_
          refine wl_nild ?_
          refine rk_blk ?_
          refine rk_region ?_
          refine wl_p (fun _ => o_move rfl) ?_
          refine wl_p (fun _ => o_add rfl rfl (by omega) (by omega)) ?_
          refine wl_p (fun _ => o_assign rfl) ?_
          refine wl_nil ?_
          exact rk_againf (Fr.le_of (by kernel_rfl) (by kernel_rfl) (by repeat' constructor)) ⟨i + 1, (i : Int) + 1, _, _, rfl, by omega, by omega, rfl, by omega, by rw [hs2, ← hth, h58]; rfl, hw1⟩ (by omega)
    · refine rk_exit rfl ?_
      have hii : i = items.length := by omega
      subst hii
      rw [List.take_length] at hcn hth
      exact rk_tof hj (Fr.le_of (by kernel_rfl) (by kernel_rfl) (by repeat' constructor)) ⟨_, _, rfl, hcn, hth, hw1⟩
  rintro fr w3 ⟨less, there, rfl, hless, hthere, hw1⟩
  first | refine rk_frame (by simp only [List.cons_append, List.nil_append, List.drop_succ_cons, List.drop_zero]; rfl) ?_ | refine wl_frame (by simp only [List.cons_append, List.nil_append, List.drop_succ_cons, List.drop_zero]; rfl) ?_
  have shw1 := hw1.size
  replace hw := hw.trans (hw1.mono hw.size)
  replace f4 := f4.u hw1
  refine rk_seq ?_
  refine rk_region ?_
  refine wl_p (fun _ => o_assign rfl) ?_
  refine wl_nil ?_
  refine rk_seq ?_
  refine rk_seq ?_
  refine rk_region ?_
  refine wl_p (fun _ => o_assign rfl) ?_
  refine wl_nil ?_
  refine rk_block ?_
  refine rk_joinf (fun fb fr w4 => ∃ (cn : Int), fr = [(12, .int .i64 cn)] ++ fb.drop 2 ∧ cn = (keys.countP (fun x : By => decide (cmpL x key ≤ 0)) : Nat) ∧ Below w3.heap.size w3 w4) ?_ (fun ks hj => ?_)
  rotate_left
  · refine rk_loopf (fun fb m fr w4 => ∃ (i : Nat) (v : Int) (cn : Int), fr = [(13, .int .i64 v), (12, .int .i64 cn)] ++ fb.drop 2 ∧ v = i ∧ i ≤ keys.length ∧ m = keys.length - i ∧ cn = ((keys.take i).countP (fun x : By => decide (cmpL x key ≤ 0)) : Nat) ∧ Below w3.heap.size w3 w4) (n := keys.length) (Fr.le_of (by kernel_rfl) (by kernel_rfl) (by repeat' constructor)) ⟨0, _, _, rfl, rfl, by omega, rfl, rfl, Below.refl _ _⟩ ?_
    rintro m fr w4 ⟨i, v, cn, rfl, rfl, hi, rfl, hcn, hw2⟩
    first | refine rk_frame (by simp only [List.cons_append, List.nil_append, List.drop_succ_cons, List.drop_zero]; rfl) ?_ | refine wl_frame (by simp only [List.cons_append, List.nil_append, List.drop_succ_cons, List.drop_zero]; rfl) ?_
    have shw2 := hw2.size
    replace hw1 := hw1.trans (hw2.mono hw1.size)
    replace hw := hw.trans (hw2.mono hw.size)
    replace f4 := f4.u hw2
    have hci : 0 ≤ cn ∧ cn ≤ 40 := by
      have : ((keys.take i).countP (fun x : By => decide (cmpL x key ≤ 0))) ≤ (keys.take i).length := List.countP_le_length
      rw [List.length_take] at this; omega
    refine rk_seq ?_
    refine rk_seq ?_
    refine rk_region ?_
    refine wl_p (fun _ => o_move rfl) ?_
    refine wl_p (fun _ => o_faddr (s := 26) (i := 2) (off := 2) Try.underlying26 rfl Try.sizeOf24 rfl rfl rfl) ?_
    refine wl_r (o_loadbg Try.isAgg24 rfl f4 (by rfl)) ?_
    refine wl_p (fun _ => o_len (t := 24) Try.underlying24 rfl) ?_
    refine wl_p (fun _ => o_lt rfl rfl) ?_
    refine wl_nil ?_
    refine rk_if rfl (fun h74 => ?_) (fun h74 => ?_)
    · have hil : i < keys.length := by omega
      have hs1 : (keys.take (i + 1)).countP (fun x : By => decide (cmpL x key ≤ 0)) = (keys.take i).countP (fun x : By => decide (cmpL x key ≤ 0)) + (if cmpL keys[i] key ≤ 0 then 1 else 0) := by
        rw [List.take_succ_eq_append_getElem hil, List.countP_append, List.countP_singleton]; simp
      refine rk_skip ?_
      refine rk_seq ?_
      refine rk_block ?_
      refine rk_seq ?_
      refine rk_draw (id := 17) (none) [0, 1, 0, 6, 8, 16, 0, 64, 160] [0, 1, 0, 7, 15, 31, 0, 64, 255] 0 0 [(.p, 0), (.r, 1), (.p, 2), (.p, 3), (.r, 4), (.r, 5), (.p, 6), (.r, 7), (.p, 8)] (by kernel_rfl) (by kernel_rfl) (by kernel_rfl) (by kernel_rfl) (by kernel_rfl) ?_
      replace hw2 := hw2.drew
      replace hw1 := hw1.drew
      replace hw := hw.drew
      replace f4 := f4.d
      refine wl_p (fun _ => o_faddr (s := 26) (i := 2) (off := 2) Try.underlying26 rfl Try.sizeOf24 rfl rfl rfl) ?_
      refine wl_r (o_loadbg Try.isAgg24 rfl f4 (by rfl)) ?_
      refine wl_p (fun _ => o_move rfl) ?_
      refine wl_p (fun _ => (o_iaddrA1 (i) Try.underlying24 Try.sizeOf27 rfl rfl rfl (hK.some_ (by omega)) (by omega))) ?_
      refine wl_ldKy rfl hK hw (by omega) ?_
      rintro A181 c181 f81 i81
      refine wl_r (o_strU Try.underlying27 Try.underlying5 Try.underlying9 rfl f81 hw rfl) ?_
      refine wl_p (fun _ => o_move rfl) ?_
      refine wl_r (o_strU Try.underlying27 Try.underlying5 Try.underlying9 rfl hC hw rfl) ?_
      refine wl_p (fun _ => o_sleq rfl rfl) ?_
      refine wl_nild ?_
      refine rk_if rfl (fun h85 => ?_) (fun h85 => ?_)
      · rw [if_pos h85] at hs1
        refine rk_region ?_
        refine wl_p (fun _ => o_move rfl) ?_
        refine wl_p (fun _ => o_add rfl rfl (by omega) (by omega)) ?_
        refine wl_p (fun _ => o_assign rfl) ?_
        refine wl_nil ?_
        refine rk_blk ?_
        refine rk_region ?_
        refine wl_p (fun _ => o_move rfl) ?_
        refine wl_p (fun _ => o_add rfl rfl (by omega) (by omega)) ?_
        refine wl_p (fun _ => o_assign rfl) ?_
        refine wl_nil ?_
        exact rk_againf (Fr.le_of (by kernel_rfl) (by kernel_rfl) (by repeat' constructor)) ⟨i + 1, (i : Int) + 1, _, rfl, by omega, by omega, rfl, by omega, hw2⟩ (by omega)
      · rw [if_neg h85] at hs1
        refine rk_skip ?_
        refine rk_blk ?_
        refine rk_region ?_
        refine wl_p (fun _ => o_move rfl) ?_
        refine wl_p (fun _ => o_add rfl rfl (by omega) (by omega)) ?_
        refine wl_p (fun _ => o_assign rfl) ?_
        refine wl_nil ?_
        exact rk_againf (Fr.le_of (by kernel_rfl) (by kernel_rfl) (by repeat' constructor)) ⟨i + 1, (i : Int) + 1, _, rfl, by omega, by omega, rfl, by omega, hw2⟩ (by omega)
    · refine rk_exit rfl ?_
      have hii : i = keys.length := by omega
      subst hii
      rw [List.take_length] at hcn
      exact rk_tof hj (Fr.le_of (by kernel_rfl) (by kernel_rfl) (by repeat' constructor)) ⟨_, rfl, hcn, hw2⟩
  rintro fr w4 ⟨nt, rfl, hnt, hw2⟩
  first | refine rk_frame (by simp only [List.cons_append, List.nil_append, List.drop_succ_cons, List.drop_zero]; rfl) ?_ | refine wl_frame (by simp only [List.cons_append, List.nil_append, List.drop_succ_cons, List.drop_zero]; rfl) ?_
  have shw2 := hw2.size
  replace hw1 := hw1.trans (hw2.mono hw1.size)
  replace hw := hw.trans (hw2.mono hw.size)
  replace f4 := f4.u hw2
  refine rk_seq ?_
  refine rk_region ?_
  refine wl_r (o_loadag Try.isAgg26 Try.sizeOf26 rfl f4 (by rfl)) ?_
  refine wl_p (fun _ => o_move rfl) ?_
  refine wl_call rfl (C_leafFind _ (hI.u hw) (hZ.u hw) (hK.u hw) (hC.u hw) rfl rfl rfl rfl (by omega) (by omega) (by omega) (by omega) (by omega) (by omega)) ?_
  rintro v91 w91 ⟨k91, ⟨ok91, ⟨rfl, ⟨i91, b91⟩⟩⟩⟩
  have s91 := b91.size
  replace hw2 := hw2.trans (b91.mono hw2.size)
  replace hw1 := hw1.trans (b91.mono hw1.size)
  replace hw := hw.trans (b91.mono hw.size)
  replace f4 := f4.u b91
  refine wl_p (fun _ => o_move rfl) ?_
  refine wl_p (fun _ => o_ext20 rfl) ?_
  refine wl_p (fun _ => o_ext21 rfl) ?_
  refine wl_p (fun _ => o_assign rfl) ?_
  refine wl_p (fun _ => o_assign rfl) ?_
  refine wl_nil ?_
  refine rk_seq ?_
  refine rk_region ?_
  refine wl_r (o_loadag Try.isAgg26 Try.sizeOf26 rfl f4 (by rfl)) ?_
  refine wl_p (fun _ => o_move rfl) ?_
  refine wl_call rfl (C_leafKid _ (hI.u hw) (hZ.u hw) (hK.u hw) (hC.u hw) rfl rfl rfl rfl (by omega) (by omega) (by omega) (by omega) (by omega) (by omega)) ?_
  rintro v96 w96 ⟨z96, ⟨rfl, ⟨i96, b96⟩⟩⟩
  have s96 := b96.size
  replace hw2 := hw2.trans (b96.mono hw2.size)
  replace hw1 := hw1.trans (b96.mono hw1.size)
  replace hw := hw.trans (b96.mono hw.size)
  replace f4 := f4.u b96
  refine wl_p (fun _ => o_assign rfl) ?_
  refine wl_nil ?_
  refine rk_seq ?_
  refine rk_seq ?_
  refine rk_region ?_
  refine wl_r (o_loadag Try.isAgg26 Try.sizeOf26 rfl f4 (by rfl)) ?_
  refine wl_call rfl (C_leafCheck _ (hI.u hw) (hZ.u hw) (hK.u hw) rfl rfl rfl (by omega) (by omega) (by omega) (by omega) (by omega)) ?_
  rintro v98 w98 ⟨z98, ⟨rfl, ⟨i98, ⟨i98_1, b98⟩⟩⟩⟩
  have s98 := b98.size
  replace hw2 := hw2.trans (b98.mono hw2.size)
  replace hw1 := hw1.trans (b98.mono hw1.size)
  replace hw := hw.trans (b98.mono hw.size)
  replace f4 := f4.u b98
  refine wl_p (fun _ => o_ne rfl rfl) ?_
  refine wl_nil ?_
  refine rk_if rfl (fun h99 => ?_) (fun h99 => ?_)
  · have hnw : ¬WholeN items kids keys := fun h => h99 (i98_1.2 h)
    obtain ⟨rfl, rfl⟩ := i91.2 (fun h => hnw h.1)
    obtain rfl : z96 = -1 := i96.2 (fun h => hnw h.1)
    refine rk_seq ?_
    refine rk_region ?_
    refine wl_p (fun _ => o_move rfl) ?_
    refine wl_p (fun _ => o_eq rfl rfl) ?_
    refine wl_p (fun _ => o_move rfl) ?_
    refine wl_p (fun _ => o_move rfl) ?_
    refine wl_p (fun _ => o_not rfl) ?_
    refine wl_p (fun _ => o_pick_t rfl rfl) ?_
    refine wl_p (fun _ => o_move rfl) ?_
    refine wl_p (fun _ => o_move rfl) ?_
    refine wl_p (fun _ => o_eq rfl rfl) ?_
    refine wl_p (fun _ => o_pick_t rfl rfl) ?_
    refine wl_p (fun _ => o_assign rfl) ?_
    refine wl_nil ?_
    refine ret1 rfl rfl ?_
    exact ⟨by simp, hw⟩
  have hW : WholeN items kids keys := i98_1.1 (by omega)
  have hneg := cmpL_neg b a
  have hleaf : kids.length = 0 → k91 ≤ items.length → (∀ j (h : j < items.length), j < k91 → cmpL items[j].1 key < 0) → (∀ h : k91 < items.length, 0 ≤ cmpL items[k91].1 key ∧ (ok91 = true ↔ cmpL items[k91].1 key = 0)) → (k91 = items.length → ok91 = false) → less = (k91 : Int) ∧ there = ok91 := fun hk0 g1 g2 g3 g4 => by
    have hW2 : WholeL items keys := by unfold WholeN at hW; rwa [if_pos hk0] at hW
    have := find_law (l := items.map Prod.fst) (key := key) (k := k91) (ok := ok91) (fun i hi h0 => by
        rw [List.length_map] at hi
        simpa using (hW2.2.2 i hi).2.2 h0) (by simpa using g1) (fun j hj hjk => by
        rw [List.length_map] at hj
        simpa using g2 j hj hjk) (fun h => by
        rw [List.length_map] at h
        simpa using g3 h) (by simpa using g4)
    rw [List.countP_map, List.any_map] at this
    exact ⟨by rw [hless, ← this.1]; rfl, by rw [hthere, ← this.2]; rfl⟩
  have f91z : kids.length ≠ 0 → k91 = 0 ∧ ok91 = false := fun hk0 => i91.2 (fun h => hk0 h.2)
  have hbr : kids.length ≠ 0 → z96 = nt := fun hk0 => by
    have hW2 : WholeB items kids keys := by unfold WholeN at hW; rwa [if_neg hk0] at hW
    obtain ⟨k, rfl, g1, g2, g3⟩ := i96.1 ⟨hW, hk0⟩
    rw [hnt, kid_law (fun i hi h0 => (hW2.2.2.2.2.2 i hi).2 h0) g1 g2 g3]
  clear hless hthere hnt
  refine rk_skip ?_
  refine rk_seq ?_
  refine rk_region ?_
  refine wl_p (fun _ => o_assign rfl) ?_
  refine wl_nil ?_
  refine rk_seq ?_
  refine rk_seq ?_
  refine rk_region ?_
  refine wl_p (fun _ => o_move rfl) ?_
  refine wl_r (o_strU Try.underlying27 Try.underlying5 Try.underlying9 rfl hD hw rfl) ?_
  refine wl_p (fun _ => o_move rfl) ?_
  refine wl_r (o_strU Try.underlying27 Try.underlying5 Try.underlying9 rfl hE hw rfl) ?_
  refine wl_p (fun _ => o_slss rfl rfl) ?_
  refine wl_nil ?_
  rcases cmpL_one a b with hab | hab | hab
  · refine rk_if rfl (fun h114 => ?_) (fun h114 => h114.elim (by omega))
    refine rk_region ?_
    refine wl_p (fun _ => o_assign rfl) ?_
    refine wl_nil ?_
    refine rk_seq ?_
    refine rk_seq ?_
    refine rk_region ?_
    refine wl_p (fun _ => o_move rfl) ?_
    refine wl_r (o_strU Try.underlying27 Try.underlying5 Try.underlying9 rfl hD hw rfl) ?_
    refine wl_p (fun _ => o_move rfl) ?_
    refine wl_r (o_strU Try.underlying27 Try.underlying5 Try.underlying9 rfl hE hw rfl) ?_
    refine wl_p (fun _ => o_sgtr rfl rfl) ?_
    refine wl_nil ?_
    refine rk_if rfl (fun h119 => absurd h119 (by omega)) (fun h119 => ?_)
    refine rk_skip ?_
    refine rk_seq ?_
    refine rk_seq ?_
    refine rk_region ?_
    refine wl_p (fun _ => o_move rfl) ?_
    refine wl_p (fun _ => o_move rfl) ?_
    refine wl_call rfl (C_leafCompare _ (hD.u hw) (hE.u hw) rfl rfl (by omega) (by omega)) ?_
    rintro v122 w122 ⟨rfl, b122⟩
    have s122 := b122.size
    replace hw2 := hw2.trans (b122.mono hw2.size)
    replace hw1 := hw1.trans (b122.mono hw1.size)
    replace hw := hw.trans (b122.mono hw.size)
    replace f4 := f4.u b122
    refine wl_p (fun _ => o_move rfl) ?_
    refine wl_p (fun _ => o_ne rfl rfl) ?_
    refine wl_p (fun _ => o_move rfl) ?_
    refine wl_know 125 false rfl (decide_eq_false (by omega)) ?_
    refine wl_p (fun _ => o_move rfl) ?_
    refine wl_p (fun _ => o_move rfl) ?_
    refine wl_call rfl (C_leafCompare _ (hE.u hw) (hD.u hw) rfl rfl (by omega) (by omega)) ?_
    rintro v128 w128 ⟨rfl, b128⟩
    have s128 := b128.size
    replace hw2 := hw2.trans (b128.mono hw2.size)
    replace hw1 := hw1.trans (b128.mono hw1.size)
    replace hw := hw.trans (b128.mono hw.size)
    replace f4 := f4.u b128
    refine wl_p (fun _ => o_move rfl) ?_
    refine wl_p (fun _ => o_neg64 rfl (by omega) (by omega)) ?_
    refine wl_p (fun _ => o_ne rfl rfl) ?_
    refine wl_p (fun _ => o_pick_f rfl rfl) ?_
    refine wl_nil ?_
    refine rk_if rfl (fun h132 => absurd h132 (by omega)) (fun h132 => ?_)
    refine rk_skip ?_
    refine rk_seq ?_
    refine rk_seq ?_
    refine rk_region ?_
    refine wl_r (o_loadag Try.isAgg26 Try.sizeOf26 rfl f4 (by rfl)) ?_
    refine wl_call rfl (C_leafLeaf _) ?_
    rintro v134 w134 ⟨rfl, b134⟩
    have s134 := b134.size
    replace hw2 := hw2.trans (b134.mono hw2.size)
    replace hw1 := hw1.trans (b134.mono hw1.size)
    replace hw := hw.trans (b134.mono hw.size)
    replace f4 := f4.u b134
    refine wl_nil ?_
    by_cases hk0 : kids.length = 0
    · obtain ⟨g1, g2, g3, g4⟩ := i91.1 ⟨hW, hk0⟩
      obtain rfl : z96 = -1 := i96.2 (fun h => h.2 hk0)
      obtain ⟨rfl, rfl⟩ := hleaf hk0 g1 g2 g3 g4
      refine rk_if rfl (fun h134 => ?_) (fun h134 => h134.elim (by omega))
      refine rk_seq ?_
      refine rk_region ?_
      refine wl_p (fun _ => o_move rfl) ?_
      refine wl_p (fun _ => o_move rfl) ?_
      refine wl_p (fun _ => o_eq rfl rfl) ?_
      refine wl_p (fun _ => o_move rfl) ?_
      refine wl_know 138 true rfl (decide_eq_true (by omega)) ?_
      refine wl_p (fun _ => o_move rfl) ?_
      refine wl_p (fun _ => o_move rfl) ?_
      refine wl_p (fun _ => o_beq (t := 4) Try.underlying4 rfl rfl) ?_
      refine wl_p (fun _ => o_pick_t rfl rfl) ?_
      refine wl_p (fun _ => o_move rfl) ?_
      refine wl_know 143 true rfl (by simp) ?_
      refine wl_p (fun _ => o_move rfl) ?_
      refine wl_p (fun _ => o_eq rfl rfl) ?_
      refine wl_p (fun _ => o_pick_t rfl rfl) ?_
      refine wl_p (fun _ => o_assign rfl) ?_
      refine wl_nil ?_
      refine ret1 rfl rfl ?_
      exact ⟨by simp, hw⟩
    · obtain ⟨rfl, rfl⟩ := f91z hk0
      obtain rfl := hbr hk0
      refine rk_if rfl (fun h134 => absurd h134 (by omega)) (fun h134 => ?_)
      refine rk_skip ?_
      refine rk_seq ?_
      refine rk_region ?_
      refine wl_p (fun _ => o_move rfl) ?_
      refine wl_p (fun _ => o_eq rfl rfl) ?_
      refine wl_p (fun _ => o_move rfl) ?_
      refine wl_p (fun _ => o_move rfl) ?_
      refine wl_p (fun _ => o_not rfl) ?_
      refine wl_p (fun _ => o_pick_t rfl rfl) ?_
      refine wl_p (fun _ => o_move rfl) ?_
      refine wl_p (fun _ => o_move rfl) ?_
      refine wl_p (fun _ => o_move rfl) ?_
      refine wl_p (fun _ => o_eq rfl rfl) ?_
      refine wl_p (fun _ => o_pick_t rfl rfl) ?_
      refine wl_p (fun _ => o_assign rfl) ?_
      refine wl_nil ?_
      refine ret1 rfl rfl ?_
      exact ⟨by simp, hw⟩
  · refine rk_if rfl (fun h114 => absurd h114 (by omega)) (fun h114 => ?_)
    refine rk_skip ?_
    refine rk_seq ?_
    refine rk_seq ?_
    refine rk_region ?_
    refine wl_p (fun _ => o_move rfl) ?_
    refine wl_r (o_strU Try.underlying27 Try.underlying5 Try.underlying9 rfl hD hw rfl) ?_
    refine wl_p (fun _ => o_move rfl) ?_
    refine wl_r (o_strU Try.underlying27 Try.underlying5 Try.underlying9 rfl hE hw rfl) ?_
    refine wl_p (fun _ => o_sgtr rfl rfl) ?_
    refine wl_nil ?_
    refine rk_if rfl (fun h119 => absurd h119 (by omega)) (fun h119 => ?_)
    refine rk_skip ?_
    refine rk_seq ?_
    refine rk_seq ?_
    refine rk_region ?_
    refine wl_p (fun _ => o_move rfl) ?_
    refine wl_p (fun _ => o_move rfl) ?_
    refine wl_call rfl (C_leafCompare _ (hD.u hw) (hE.u hw) rfl rfl (by omega) (by omega)) ?_
    rintro v122 w122 ⟨rfl, b122⟩
    have s122 := b122.size
    replace hw2 := hw2.trans (b122.mono hw2.size)
    replace hw1 := hw1.trans (b122.mono hw1.size)
    replace hw := hw.trans (b122.mono hw.size)
    replace f4 := f4.u b122
    refine wl_p (fun _ => o_move rfl) ?_
    refine wl_p (fun _ => o_ne rfl rfl) ?_
    refine wl_p (fun _ => o_move rfl) ?_
    refine wl_know 125 false rfl (decide_eq_false (by omega)) ?_
    refine wl_p (fun _ => o_move rfl) ?_
    refine wl_p (fun _ => o_move rfl) ?_
    refine wl_call rfl (C_leafCompare _ (hE.u hw) (hD.u hw) rfl rfl (by omega) (by omega)) ?_
    rintro v128 w128 ⟨rfl, b128⟩
    have s128 := b128.size
    replace hw2 := hw2.trans (b128.mono hw2.size)
    replace hw1 := hw1.trans (b128.mono hw1.size)
    replace hw := hw.trans (b128.mono hw.size)
    replace f4 := f4.u b128
    refine wl_p (fun _ => o_move rfl) ?_
    refine wl_p (fun _ => o_neg64 rfl (by omega) (by omega)) ?_
    refine wl_p (fun _ => o_ne rfl rfl) ?_
    refine wl_p (fun _ => o_pick_f rfl rfl) ?_
    refine wl_nil ?_
    refine rk_if rfl (fun h132 => absurd h132 (by omega)) (fun h132 => ?_)
    refine rk_skip ?_
    refine rk_seq ?_
    refine rk_seq ?_
    refine rk_region ?_
    refine wl_r (o_loadag Try.isAgg26 Try.sizeOf26 rfl f4 (by rfl)) ?_
    refine wl_call rfl (C_leafLeaf _) ?_
    rintro v134 w134 ⟨rfl, b134⟩
    have s134 := b134.size
    replace hw2 := hw2.trans (b134.mono hw2.size)
    replace hw1 := hw1.trans (b134.mono hw1.size)
    replace hw := hw.trans (b134.mono hw.size)
    replace f4 := f4.u b134
    refine wl_nil ?_
    by_cases hk0 : kids.length = 0
    · obtain ⟨g1, g2, g3, g4⟩ := i91.1 ⟨hW, hk0⟩
      obtain rfl : z96 = -1 := i96.2 (fun h => h.2 hk0)
      obtain ⟨rfl, rfl⟩ := hleaf hk0 g1 g2 g3 g4
      refine rk_if rfl (fun h134 => ?_) (fun h134 => h134.elim (by omega))
      refine rk_seq ?_
      refine rk_region ?_
      refine wl_p (fun _ => o_move rfl) ?_
      refine wl_p (fun _ => o_move rfl) ?_
      refine wl_p (fun _ => o_eq rfl rfl) ?_
      refine wl_p (fun _ => o_move rfl) ?_
      refine wl_know 138 true rfl (decide_eq_true (by omega)) ?_
      refine wl_p (fun _ => o_move rfl) ?_
      refine wl_p (fun _ => o_move rfl) ?_
      refine wl_p (fun _ => o_beq (t := 4) Try.underlying4 rfl rfl) ?_
      refine wl_p (fun _ => o_pick_t rfl rfl) ?_
      refine wl_p (fun _ => o_move rfl) ?_
      refine wl_know 143 true rfl (by simp) ?_
      refine wl_p (fun _ => o_move rfl) ?_
      refine wl_p (fun _ => o_eq rfl rfl) ?_
      refine wl_p (fun _ => o_pick_t rfl rfl) ?_
      refine wl_p (fun _ => o_assign rfl) ?_
      refine wl_nil ?_
      refine ret1 rfl rfl ?_
      exact ⟨by simp, hw⟩
    · obtain ⟨rfl, rfl⟩ := f91z hk0
      obtain rfl := hbr hk0
      refine rk_if rfl (fun h134 => absurd h134 (by omega)) (fun h134 => ?_)
      refine rk_skip ?_
      refine rk_seq ?_
      refine rk_region ?_
      refine wl_p (fun _ => o_move rfl) ?_
      refine wl_p (fun _ => o_eq rfl rfl) ?_
      refine wl_p (fun _ => o_move rfl) ?_
      refine wl_p (fun _ => o_move rfl) ?_
      refine wl_p (fun _ => o_not rfl) ?_
      refine wl_p (fun _ => o_pick_t rfl rfl) ?_
      refine wl_p (fun _ => o_move rfl) ?_
      refine wl_p (fun _ => o_move rfl) ?_
      refine wl_p (fun _ => o_move rfl) ?_
      refine wl_p (fun _ => o_eq rfl rfl) ?_
      refine wl_p (fun _ => o_pick_t rfl rfl) ?_
      refine wl_p (fun _ => o_assign rfl) ?_
      refine wl_nil ?_
      refine ret1 rfl rfl ?_
      exact ⟨by simp, hw⟩
  · refine rk_if rfl (fun h114 => absurd h114 (by omega)) (fun h114 => ?_)
    refine rk_skip ?_
    refine rk_seq ?_
    refine rk_seq ?_
    refine rk_region ?_
    refine wl_p (fun _ => o_move rfl) ?_
    refine wl_r (o_strU Try.underlying27 Try.underlying5 Try.underlying9 rfl hD hw rfl) ?_
    refine wl_p (fun _ => o_move rfl) ?_
    refine wl_r (o_strU Try.underlying27 Try.underlying5 Try.underlying9 rfl hE hw rfl) ?_
    refine wl_p (fun _ => o_sgtr rfl rfl) ?_
    refine wl_nil ?_
    refine rk_if rfl (fun h119 => ?_) (fun h119 => h119.elim (by omega))
    refine rk_region ?_
    refine wl_p (fun _ => o_assign rfl) ?_
    refine wl_nil ?_
    refine rk_seq ?_
    refine rk_seq ?_
    refine rk_region ?_
    refine wl_p (fun _ => o_move rfl) ?_
    refine wl_p (fun _ => o_move rfl) ?_
    refine wl_call rfl (C_leafCompare _ (hD.u hw) (hE.u hw) rfl rfl (by omega) (by omega)) ?_
    rintro v122 w122 ⟨rfl, b122⟩
    have s122 := b122.size
    replace hw2 := hw2.trans (b122.mono hw2.size)
    replace hw1 := hw1.trans (b122.mono hw1.size)
    replace hw := hw.trans (b122.mono hw.size)
    replace f4 := f4.u b122
    refine wl_p (fun _ => o_move rfl) ?_
    refine wl_p (fun _ => o_ne rfl rfl) ?_
    refine wl_p (fun _ => o_move rfl) ?_
    refine wl_know 125 false rfl (decide_eq_false (by omega)) ?_
    refine wl_p (fun _ => o_move rfl) ?_
    refine wl_p (fun _ => o_move rfl) ?_
    refine wl_call rfl (C_leafCompare _ (hE.u hw) (hD.u hw) rfl rfl (by omega) (by omega)) ?_
    rintro v128 w128 ⟨rfl, b128⟩
    have s128 := b128.size
    replace hw2 := hw2.trans (b128.mono hw2.size)
    replace hw1 := hw1.trans (b128.mono hw1.size)
    replace hw := hw.trans (b128.mono hw.size)
    replace f4 := f4.u b128
    refine wl_p (fun _ => o_move rfl) ?_
    refine wl_p (fun _ => o_neg64 rfl (by omega) (by omega)) ?_
    refine wl_p (fun _ => o_ne rfl rfl) ?_
    refine wl_p (fun _ => o_pick_f rfl rfl) ?_
    refine wl_nil ?_
    refine rk_if rfl (fun h132 => absurd h132 (by omega)) (fun h132 => ?_)
    refine rk_skip ?_
    refine rk_seq ?_
    refine rk_seq ?_
    refine rk_region ?_
    refine wl_r (o_loadag Try.isAgg26 Try.sizeOf26 rfl f4 (by rfl)) ?_
    refine wl_call rfl (C_leafLeaf _) ?_
    rintro v134 w134 ⟨rfl, b134⟩
    have s134 := b134.size
    replace hw2 := hw2.trans (b134.mono hw2.size)
    replace hw1 := hw1.trans (b134.mono hw1.size)
    replace hw := hw.trans (b134.mono hw.size)
    replace f4 := f4.u b134
    refine wl_nil ?_
    by_cases hk0 : kids.length = 0
    · obtain ⟨g1, g2, g3, g4⟩ := i91.1 ⟨hW, hk0⟩
      obtain rfl : z96 = -1 := i96.2 (fun h => h.2 hk0)
      obtain ⟨rfl, rfl⟩ := hleaf hk0 g1 g2 g3 g4
      refine rk_if rfl (fun h134 => ?_) (fun h134 => h134.elim (by omega))
      refine rk_seq ?_
      refine rk_region ?_
      refine wl_p (fun _ => o_move rfl) ?_
      refine wl_p (fun _ => o_move rfl) ?_
      refine wl_p (fun _ => o_eq rfl rfl) ?_
      refine wl_p (fun _ => o_move rfl) ?_
      refine wl_know 138 true rfl (decide_eq_true (by omega)) ?_
      refine wl_p (fun _ => o_move rfl) ?_
      refine wl_p (fun _ => o_move rfl) ?_
      refine wl_p (fun _ => o_beq (t := 4) Try.underlying4 rfl rfl) ?_
      refine wl_p (fun _ => o_pick_t rfl rfl) ?_
      refine wl_p (fun _ => o_move rfl) ?_
      refine wl_know 143 true rfl (by simp) ?_
      refine wl_p (fun _ => o_move rfl) ?_
      refine wl_p (fun _ => o_eq rfl rfl) ?_
      refine wl_p (fun _ => o_pick_t rfl rfl) ?_
      refine wl_p (fun _ => o_assign rfl) ?_
      refine wl_nil ?_
      refine ret1 rfl rfl ?_
      exact ⟨by simp, hw⟩
    · obtain ⟨rfl, rfl⟩ := f91z hk0
      obtain rfl := hbr hk0
      refine rk_if rfl (fun h134 => absurd h134 (by omega)) (fun h134 => ?_)
      refine rk_skip ?_
      refine rk_seq ?_
      refine rk_region ?_
      refine wl_p (fun _ => o_move rfl) ?_
      refine wl_p (fun _ => o_eq rfl rfl) ?_
      refine wl_p (fun _ => o_move rfl) ?_
      refine wl_p (fun _ => o_move rfl) ?_
      refine wl_p (fun _ => o_not rfl) ?_
      refine wl_p (fun _ => o_pick_t rfl rfl) ?_
      refine wl_p (fun _ => o_move rfl) ?_
      refine wl_p (fun _ => o_move rfl) ?_
      refine wl_p (fun _ => o_move rfl) ?_
      refine wl_p (fun _ => o_eq rfl rfl) ?_
      refine wl_p (fun _ => o_pick_t rfl rfl) ?_
      refine wl_p (fun _ => o_assign rfl) ?_
      refine wl_nil ?_
      refine ret1 rfl rfl ?_
      exact ⟨by simp, hw⟩
end Go.Proofs.Ytchcpnfafgiifaa
