/-
  Lists of envelopes whose bytes are written.
-/
import Derived.Test.YtaldpegegekbjaaNetM
namespace Go.Proofs.Ytaldpegegekbjaa
open Go.RowKit
/-- One byte of a block of bytes has been written. -/
def ByteSt (w w' : World) (g0 : Nat) : Prop := ∃ (o0 : Nat) (u : UInt8) (v0 : Value), w.cell? ⟨g0, o0, none⟩ = some v0 ∧ Fz w g0 ∧ w' = w.setCell ⟨g0, o0, none⟩ (.int .u8 (u.toNat : Int))
theorem ByteSt.grew {w w' : World} {g0 : Nat} (h : ByteSt w w' g0) : Grew w w' 5 (some g0) := by
  obtain ⟨o0, u, v0, _, ⟨cs, h1⟩, rfl⟩ := h
  exact ⟨grownBy_setCell w g0 o0 _, fun k e => by injection e with e; subst e; exact ⟨cs, (0, 0), h1⟩⟩
theorem ByteSt.size {w w' : World} {g0 : Nat} (h : ByteSt w w' g0) : w'.heap.size = w.heap.size := by
  obtain ⟨o0, u, v0, _, _, rfl⟩ := h
  simp [World.setCell]
theorem Fz.st {w w' : World} {g0 k : Nat} (h : Fz w k) (hs : ByteSt w w' g0) : Fz w' k := by
  obtain ⟨o0, u, v0, _, ⟨cs, h1⟩, rfl⟩ := hs
  by_cases e : k = g0
  · subst e
    refine ⟨cs.setIfInBounds o0 (.int .u8 (u.toNat : Int)), ?_⟩
    simp [World.setCell, Array.getElem?_modify, h1]
  · obtain ⟨cs2, h2⟩ := h
    refine ⟨cs2, ?_⟩
    rw [Below.heap_setCell w _ _ k (by simpa using fun h => e h), h2]
/-- m bytes that may be written, in a block at or above B. -/
def ByM (w : World) (B : Nat) (A : Option Addr) (m : Nat) : Prop :=
  m = 0 ∨ ∃ g o, A = some ⟨g, o, none⟩ ∧ B ≤ g ∧ Fz w g ∧ ∀ j, j < m → ∃ u : UInt8, w.cell? ⟨g, o + j, none⟩ = some (.int .u8 (u.toNat : Int))
section
variable {w w' : World} {B m g0 : Nat} {A : Option Addr}
theorem ByM.u (h : ByM w B A m) (hb : Below w.heap.size w w') : ByM w' B A m := by
  rcases h with h | ⟨g, o, h1, h2, h3, h4⟩
  · exact .inl h
  · refine .inr ⟨g, o, h1, h2, h3.keep (hb.block g h3.lt), fun j hj => ?_⟩
    obtain ⟨u, hu⟩ := h4 j hj
    exact ⟨u, (hb.cell (block_lt_of_cell hu)).trans hu⟩
theorem ByM.d (h : ByM w B A m) : ByM w.drew B A m := h.u (below_drew w)
theorem ByM.st (h : ByM w B A m) (hs : ByteSt w w' g0) : ByM w' B A m := by
  rcases h with h | ⟨g, o, h1, h2, h3, h4⟩
  · exact .inl h
  · refine .inr ⟨g, o, h1, h2, h3.st hs, fun j hj => ?_⟩
    obtain ⟨o0, u, v0, hc, _, rfl⟩ := hs
    by_cases e : (⟨g0, o0, none⟩ : Addr) = ⟨g, o + j, none⟩
    · rw [e]
      rw [e] at hc
      exact ⟨u, World.cell?_setCell_same _ _ _ hc⟩
    · rw [World.cell?_setCell_other _ _ _ _ e]
      exact h4 j hj
theorem ByM.some_ (h : ByM w B A m) (hm : 0 < m) : A = some (A.getD ⟨0, 0, none⟩) := by
  rcases h with h | ⟨g, o, h1, _⟩
  · omega
  · rw [h1]; rfl
theorem ByM.of {A : Option Addr} {p : By} (h : Rd w A p) (hk : ∀ k, blk A = some k → B ≤ k ∧ Fz w k) : ByM w B A p.length := by
  by_cases hp : p = []
  · exact .inl (by rw [hp]; rfl)
  · obtain ⟨b, o, rfl, _, h3⟩ := h.at_ hp
    obtain ⟨h4, h5⟩ := hk b rfl
    exact .inr ⟨b, o, rfl, h4, h5, fun j hj => ⟨p[j], h3 j hj⟩⟩
end
/-- A list of envelopes, by where their bytes lie. -/
abbrev Hd := Option Addr × Nat × Nat
def MutL (w : World) (B : Nat) (A : Option Addr) (H : List Hd) : Prop :=
  ∃ xs, Reads w 3 A H.length xs ∧ (∀ k, blk A = some k → TyAt w k 38) ∧ ∀ i (h : i < H.length), ∃ a b, part xs 3 i = [a, b, .slice H[i].1 H[i].2.1 H[i].2.2] ∧ H[i].2.1 ≤ H[i].2.2 ∧ H[i].2.2 ≤ maxLen ∧ ByM w B H[i].1 H[i].2.1
section
variable {w w' : World} {B g0 : Nat} {A : Option Addr} {H : List Hd}
theorem MutL.u (h : MutL w B A H) (hb : Below w.heap.size w w') : MutL w' B A H := by
  obtain ⟨xs, h1, h2, h3⟩ := h
  refine ⟨xs, h1.below hb, fun k hk => (h2 k hk).keep (hb.block k (h2 k hk).lt), fun i hi => ?_⟩
  obtain ⟨a, b, e, i1, i2, i3⟩ := h3 i hi
  exact ⟨a, b, e, i1, i2, i3.u hb⟩
theorem MutL.d (h : MutL w B A H) : MutL w.drew B A H := h.u (below_drew w)
theorem MutL.st (h : MutL w B A H) (hs : ByteSt w w' g0) : MutL w' B A H := by
  obtain ⟨xs, h1, h2, h3⟩ := h
  have hg := hs.grew
  have hne := grew_blk hg h2 (by decide)
  refine ⟨xs, h1.grown hg.g hne, fun k hk => (h2 k hk).keep (hg.g.block k (h2 k hk).lt (fun e => ?_)), fun i hi => ?_⟩
  · rcases hne with h4 | h4
    · rw [h4] at hk; cases hk
    · exact h4 (hk.trans e)
  · obtain ⟨a, b, e, i1, i2, i3⟩ := h3 i hi
    exact ⟨a, b, e, i1, i2, i3.st hs⟩
theorem MutL.by_ (h : MutL w B A H) {i : Nat} (hi : i < H.length) : ByM w B H[i].1 H[i].2.1 ∧ H[i].2.1 ≤ H[i].2.2 ∧ H[i].2.2 ≤ maxLen := by
  obtain ⟨xs, h1, h2, h3⟩ := h
  obtain ⟨a, b, e, i1, i2, i3⟩ := h3 i hi
  exact ⟨i3, i1, i2⟩
theorem MutL.cells (h : MutL w B A H) {i : Nat} (hi : i < H.length) : ∃ a b, CellsAt w A (i * 3) [a, b, .slice H[i].1 H[i].2.1 H[i].2.2] := by
  obtain ⟨xs, h1, h2, h3⟩ := h
  obtain ⟨a, b, e, _⟩ := h3 i hi
  exact ⟨a, b, e ▸ h1.cellsAt hi (by omega)⟩
theorem MutL.some_ (h : MutL w B A H) (hl : 0 < H.length) : A = some (A.getD ⟨0, 0, none⟩) := by
  obtain ⟨xs, h1, _⟩ := h
  exact h1.some_ (by omega) hl
theorem OwnEn.mutL {b lo hi c : Nat} {L : List En} (h : OwnEn b w lo hi A c L) (hB : B ≤ b) : ∃ H : List Hd, H.length = L.length ∧ MutL w B A H ∧ H.length ≤ maxLen := by
  obtain ⟨xs, h1, h2⟩ := h
  have hmax : L.length ≤ maxLen := by
    rcases h1.o.2 with ⟨hv, h0⟩ | ⟨g, cap, cur, hv, _, _, h3, h4, _⟩
    · simp only [maxLen]; omega
    · omega
  have h3 : ∀ i, i < L.length → ∃ (x : Hd), ∃ a b', part xs 3 i = [a, b', .slice x.1 x.2.1 x.2.2] ∧ x.2.1 ≤ x.2.2 ∧ x.2.2 ≤ maxLen ∧ ByM w B x.1 x.2.1 := fun i hi => by
    obtain ⟨c1, c2, e, ⟨rfl, _⟩, c3, c4, rfl, ⟨rfl, _⟩, ⟨A1, n1, rfl, i1, i2, i3⟩, i4⟩ := h2 i hi
    exact ⟨(A1, _, n1), _, _, e, i2, i3, ByM.of i1.to_Rd (fun k hk => by
      obtain ⟨j1, j2⟩ := i4 A1 _ _ rfl k hk
      exact ⟨by omega, j2⟩)⟩
  have h4 : ∀ n, n ≤ L.length → ∃ H : List Hd, H.length = n ∧ ∀ i (h : i < H.length), ∃ a b', part xs 3 i = [a, b', .slice H[i].1 H[i].2.1 H[i].2.2] ∧ H[i].2.1 ≤ H[i].2.2 ∧ H[i].2.2 ≤ maxLen ∧ ByM w B H[i].1 H[i].2.1 := by
    intro n
    induction n with
    | zero => exact fun _ => ⟨[], rfl, fun i h => absurd h (Nat.not_lt_zero _)⟩
    | succ n ih =>
      intro hn
      obtain ⟨H, hl, hH⟩ := ih (by omega)
      obtain ⟨x, hx⟩ := h3 n (by omega)
      refine ⟨H ++ [x], by simp [hl], fun i hi => ?_⟩
      rcases Nat.lt_or_ge i H.length with h5 | h5
      · rw [List.getElem_append_left h5]; exact hH i h5
      · have : i = n := by simp at hi; omega
        subst this
        rw [List.getElem_append_right h5]
        simpa [hl] using hx
  obtain ⟨H, hl, hH⟩ := h4 L.length (Nat.le_refl _)
  refine ⟨H, hl, ⟨xs, ?_, RowH.ty h1, hH⟩, by omega⟩
  rw [hl]; exact RowH.rd h1
end
/-- Lists, one after the other. -/
def MutA (w : World) (B : Nat) (A : Option Addr) (LL : List (Option Addr × Nat × List Hd)) : Prop :=
  Reads w 1 A LL.length (LL.map fun x => .slice x.1 x.2.2.length x.2.1) ∧ (∀ k, blk A = some k → TyAt w k 25) ∧ ∀ x ∈ LL, MutL w B x.1 x.2.2 ∧ x.2.2.length ≤ maxLen
section
variable {w w' : World} {B g0 : Nat} {A : Option Addr} {LL : List (Option Addr × Nat × List Hd)}
theorem MutA.u (h : MutA w B A LL) (hb : Below w.heap.size w w') : MutA w' B A LL :=
  ⟨h.1.below hb, fun k hk => (h.2.1 k hk).keep (hb.block k (h.2.1 k hk).lt), fun x hx => ⟨(h.2.2 x hx).1.u hb, (h.2.2 x hx).2⟩⟩
theorem MutA.d (h : MutA w B A LL) : MutA w.drew B A LL := h.u (below_drew w)
theorem MutA.st (h : MutA w B A LL) (hs : ByteSt w w' g0) : MutA w' B A LL := by
  have hg := hs.grew
  have hne := grew_blk hg h.2.1 (by decide)
  refine ⟨h.1.grown hg.g hne, fun k hk => (h.2.1 k hk).keep (hg.g.block k (h.2.1 k hk).lt (fun e => ?_)), fun x hx => ⟨(h.2.2 x hx).1.st hs, (h.2.2 x hx).2⟩⟩
  rcases hne with h4 | h4
  · rw [h4] at hk; cases hk
  · exact h4 (hk.trans e)
theorem MutA.some_ (h : MutA w B A LL) (hl : 0 < LL.length) : A = some (A.getD ⟨0, 0, none⟩) := h.1.some_ (by omega) hl
end
section
variable {fn : Func} {F : Ending → World → Prop} {N : Nat} {ks : List K} {ops : Array Oper} {tg : Tags} {l : List Oper} {fr : Fr} {w : World} {ty : TypeId} {pos : String} {aft : Array Edge} {gd : Option (Nat × Bool)} {d j m B : Nat} {x y : Operand} {A : Option Addr} {H : List Hd} {LL : List (Option Addr × Nat × List Hd)}
--@ rule load r o_ldMutA
theorem o_ldMutA (hx : fr.ev x = some (.pointer (some (adr A j)))) (hr : MutA w B A LL) (hj : j < LL.length) : OpV Try.prog N fr w (.load 25 x) ty (.slice LL[j].1 LL[j].2.2.length LL[j].2.1) w := by
  refine o_load (t := 25) Try.isAgg25 hx ?_
  have := (hr.1.adr_ (by intro e; have := congrArg List.length e; simp at this; subst this; simp at hj)).2 j
  exact this _ (by simp [hj])
--@ rule load r o_ldMutL
theorem o_ldMutL (hx : fr.ev x = some (.pointer (some (adr A (j * 3 + 2))))) (hr : MutL w B A H) (hj : j < H.length) : OpV Try.prog N fr w (.load 32 x) ty (.slice H[j].1 H[j].2.1 H[j].2.2) w := by
  obtain ⟨a, b, h1⟩ := hr.cells hj
  exact o_load (t := 32) Try.isAgg32 hx (h1 2 _ rfl)
--@ rule load l wl_ldByM
theorem wl_ldByM (hx : fr.ev x = some (.pointer (some (adr A j)))) (hr : ByM w B A m) (hj : j < m) (hk : ∀ u : UInt8, WL Try.prog fn F N ks ops tg.tail l ((d, .int .u8 (u.toNat : Int)) :: fr) w)
    (ht : tg.reads = true := by rfl) (hg : onG ops fr gd = true := by rfl) (hd : Nat.blt d N = true := by rfl) : WL Try.prog fn F N ks ops tg (⟨some d, .load 5 x, ty, pos, aft, gd⟩ :: l) fr w := by
  rcases hr with h | ⟨g, o, rfl, _, _, h4⟩
  · omega
  · obtain ⟨u, hu⟩ := h4 j hj
    exact wl_r (o_load (t := 5) Try.isAgg5 hx (by show w.cell? ((⟨g, o, none⟩ : Addr).add j) = _; rw [add_plain]; exact hu)) (hk u) ht hg hd
--@ rule store l wl_stByM
theorem wl_stByM {z : Int} (hx : fr.ev x = some (.pointer (some (adr A j)))) (hr : ByM w B A m) (hj : j < m) (hy : fr.ev y = some (.int .u8 z)) (hz0 : 0 ≤ z) (hz : z ≤ 255)
    (hk : ∀ w' g, ByteSt w w' g → Grew w w' 5 (some g) → B ≤ g → w'.heap.size = w.heap.size → WL Try.prog fn F N ks ops tg.tail l fr w')
    (ht : tg.loud = true := by rfl) (hg : onG ops fr gd = true := by rfl) (hq : tg.calm = false := by rfl) : WL Try.prog fn F N ks ops tg (⟨none, .store 5 x y, ty, pos, aft, gd⟩ :: l) fr w := by
  rcases hr with h | ⟨g, o, rfl, h2, h3, h4⟩
  · omega
  · obtain ⟨u, hu⟩ := h4 j hj
    have e : adr (some ⟨g, o, none⟩) j = ⟨g, o + j, none⟩ := by show (⟨g, o, none⟩ : Addr).add j = _; rw [add_plain]
    rw [e] at hx
    have hst : ByteSt w (w.setCell ⟨g, o + j, none⟩ (.int .u8 z)) g := ⟨o + j, UInt8.ofNat z.toNat, _, hu, h3, by rw [← byte_of z hz0 hz]⟩
    have hf : w.frozen? ⟨g, o + j, none⟩ = false := by
      obtain ⟨cs, hcs⟩ := h3
      simp [World.frozen?, hcs]
    exact wl_u (o_store (t := 5) Try.sizeOf5 hx hy rfl hu hf) (hk _ g hst hst.grew h2 hst.size) ht hg (.inl hq)
end
theorem u8_wrap_range (n : Int) : 0 ≤ IntKind.u8.wrap n ∧ IntKind.u8.wrap n ≤ 255 := by
  show 0 ≤ n % 256 ∧ n % 256 ≤ 255
  omega
/-! The places of the envelopes to a node. -/
theorem placesN_get {L : List En} {i : Int} {j : Nat} (hj : j < (placesN L i).length) : ∃ k : Nat, ∃ h : k < L.length, (placesN L i)[j] = (k : Int) ∧ L[k].2.1 = i := by
  have hm := List.getElem_mem hj
  unfold placesN at hm
  obtain ⟨p, hp, he⟩ := List.mem_map.1 hm
  obtain ⟨h1, h2⟩ := List.mem_filter.1 hp
  obtain ⟨e, k⟩ := p
  have h3 := List.mem_zipIdx h1
  simp only [Nat.zero_add, Nat.sub_zero] at h3
  obtain ⟨_, h4, h5⟩ := h3
  refine ⟨k, h4, he.symm, ?_⟩
  rw [← h5]
  simpa using h2
theorem placesN_sorted (L : List En) (i : Int) : (placesN L i).Pairwise (· < ·) := by
  unfold placesN
  rw [List.pairwise_map]
  refine List.Pairwise.filter _ ?_
  have : ∀ (l : List En) (n : Nat), (l.zipIdx n).Pairwise (fun a b => (a.2 : Int) < (b.2 : Int)) := by
    intro l
    induction l with
    | nil => intro n; simp
    | cons x l ih =>
      intro n
      rw [List.zipIdx_cons, List.pairwise_cons]
      refine ⟨fun p hp => ?_, ih (n + 1)⟩
      obtain ⟨e, k⟩ := p
      have := (List.mem_zipIdx hp).1
      simp only
      omega
  exact this L 0
theorem placesN_count (L : List En) (i : Int) : (placesN L i).length = L.countP fun e => decide (e.2.1 = i) := by
  unfold placesN
  rw [List.length_map]
  have : ∀ (l : List En) (n : Nat), ((l.zipIdx n).filter fun p => decide (p.1.2.1 = i)).length = l.countP fun e => decide (e.2.1 = i) := by
    intro l
    induction l with
    | nil => intro n; rfl
    | cons x l ih =>
      intro n
      rw [List.zipIdx_cons]
      by_cases h : x.2.1 = i
      · rw [List.filter_cons_of_pos (by simpa using h), List.length_cons, ih, List.countP_cons_of_pos (by simpa using h)]
      · rw [List.filter_cons_of_neg (by simpa using h), ih, List.countP_cons_of_neg (by simpa using h)]
  exact this L 0
/-- How many are to nodes below k. -/
def upto (L : List En) (k : Int) : Nat := L.countP fun e => decide (0 ≤ e.2.1 ∧ e.2.1 < k)
theorem upto_succ (L : List En) {k : Int} (hk : 0 ≤ k) : upto L (k + 1) = upto L k + (placesN L k).length := by
  rw [placesN_count]
  unfold upto
  induction L with
  | nil => rfl
  | cons x L ih =>
    rw [List.countP_cons, List.countP_cons, List.countP_cons, ih]
    by_cases h1 : x.2.1 = k
    · have h2 : ¬ (0 ≤ x.2.1 ∧ x.2.1 < k) := by omega
      have h3 : 0 ≤ x.2.1 ∧ x.2.1 < k + 1 := by omega
      simp only [decide_eq_true h1, decide_eq_false h2, decide_eq_true h3, if_true]
      simp
      omega
    · by_cases h2 : 0 ≤ x.2.1 ∧ x.2.1 < k
      · have h3 : 0 ≤ x.2.1 ∧ x.2.1 < k + 1 := by omega
        simp only [decide_eq_false h1, decide_eq_true h2, decide_eq_true h3, if_true]
        simp
        omega
      · have h3 : ¬ (0 ≤ x.2.1 ∧ x.2.1 < k + 1) := by omega
        simp only [decide_eq_false h1, decide_eq_false h2, decide_eq_false h3]
        simp
theorem upto_zero (L : List En) : upto L 0 = 0 := by
  unfold upto
  rw [List.countP_eq_zero]
  intro e _ h
  have := of_decide_eq_true h
  omega
theorem upto_all {L : List En} {k : Int} (h : ∀ e ∈ L, 0 ≤ e.2.1 ∧ e.2.1 < k) : upto L k = L.length := by
  unfold upto
  rw [List.countP_eq_length]
  intro e he
  exact decide_eq_true (h e he)
end Go.Proofs.Ytaldpegegekbjaa
