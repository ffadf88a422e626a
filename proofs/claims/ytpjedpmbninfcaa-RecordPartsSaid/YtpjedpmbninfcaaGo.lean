/-
  Data as it lies in memory, by the shape of its Go type; arguments of a law opened. No function of the program is named here.
-/
import Derived.Test.YtpjedpmbninfcaaAuto
import Derived.Test.YtpjedpmbninfcaaLaw
import Derived.Deep.Slices
namespace Go.Proofs.Ytpjedpmbninfcaa
open Go.ChangeShapes Go.WideShapes Go.ChangeAt Go.RowKit

/-- How values of a Go type lie in memory: sz cells; R: as they read; T: with the types of the blocks that they reach. -/
structure GoT (α : Type) where
  sz : Nat
  tys : List TypeId
  R : World → List Value → α → Prop
  T : World → List Value → α → Prop
  len : ∀ {w cs a}, R w cs a → cs.length = sz
  u : ∀ {w w' cs a}, R w cs a → Below w.heap.size w w' → R w' cs a
  tr : ∀ {w cs a}, T w cs a → R w cs a
  tu : ∀ {w w' cs a}, T w cs a → Below w.heap.size w w' → T w' cs a
  ty : ∀ {w w' cs a e row}, T w cs a → Grew w w' e row → e ∉ tys → T w' cs a
  tm : ∀ {w w' cs a b}, T w cs a → GrewM w w' b → T w' cs a
theorem below_drew (w : World) : Below w.heap.size w w.drew := (Below.refl _ w).drew

/-- A value that one cell holds, and nothing in memory. -/
def GoT.flat {α : Type} (f : α → Value) (p : α → Prop) : GoT α where
  sz := 1
  tys := []
  R _ cs a := cs = [f a] ∧ p a
  T _ cs a := cs = [f a] ∧ p a
  len h := by rw [h.1]; rfl
  u h _ := h
  tr h := h
  tu h _ := h
  ty h _ _ := h
  tm h _ := h
def gInt (k : IntKind) : GoT Int := GoT.flat (Value.int k) (fun n => (Lit.int k n).wf = true)
def gBool : GoT Bool := GoT.flat Value.bool (fun _ => True)
def gStr : GoT (List UInt8) := GoT.flat (fun s => Value.string ⟨s.toArray⟩) (fun s => s.length ≤ maxLen)

theorem grew_blk {w w' : World} {e e' : TypeId} {row : Option Nat} (hg : Grew w w' e' row) {A : Option Addr} (ht : ∀ k, blk A = some k → TyAt w k e) (hne : e' ≠ e) : blk A = none ∨ blk A ≠ row := by
  cases hA : blk A with
  | none => exact .inl rfl
  | some k =>
    refine .inr (fun ek => ?_)
    obtain ⟨_, _, h1⟩ := ht k hA
    obtain ⟨_, _, h2⟩ := hg.ty k ek.symm
    rw [h1] at h2
    injection h2 with h2
    injection h2 with _ h2
    exact hne h2.symm
theorem growm_blk {w w' : World} {e : TypeId} {b : Nat} (hg : GrewM w w' b) {A : Option Addr} (ht : ∀ k, blk A = some k → TyAt w k e) : blk A = none ∨ blk A ≠ some b := by
  cases hA : blk A with
  | none => exact .inl rfl
  | some k =>
    refine .inr (fun ek => ?_)
    obtain ⟨_, _, h1⟩ := ht k hA
    obtain ⟨_, _, h2⟩ := hg.m
    injection ek with ek
    subst ek
    rw [h1] at h2
    cases h2
theorem TyAt.lt {w : World} {k : Nat} {e : TypeId} (h : TyAt w k e) : k < w.heap.size := by
  obtain ⟨_, _, h⟩ := h
  rcases Nat.lt_or_ge k w.heap.size with h1 | h1
  · exact h1
  · rw [Array.getElem?_eq_none h1] at h; cases h
theorem TyAt.keep {w w' : World} {k : Nat} {e : TypeId} (h : TyAt w k e) (hb : w'.heap[k]? = w.heap[k]?) : TyAt w' k e := by
  obtain ⟨cs, f, h⟩ := h
  exact ⟨cs, f, hb.trans h⟩

/-- Bytes that lie in rows of bytes. -/
def RdT (w : World) (A : Option Addr) (l : List UInt8) : Prop := Rd w A l ∧ ∀ k, blk A = some k → TyAt w k 5
section
variable {w w' : World} {A : Option Addr} {l : List UInt8} {e : TypeId} {row : Option Nat} {b lo hi c : Nat}
theorem RdT.u (h : RdT w A l) (hb : Below w.heap.size w w') : RdT w' A l := ⟨h.1.below hb, fun k hk => (h.2 k hk).keep (hb.block k (h.2 k hk).lt)⟩
theorem RdT.d (h : RdT w A l) : RdT w.drew A l := h
theorem RdT.to_Rd (h : RdT w A l) : Rd w A l := h.1
theorem RdT.to_Reads (h : RdT w A l) : Reads w 1 A l.length (B8 l) := h.1
theorem RdT.nil_ : RdT w none [] := ⟨Rd.nil _ _, fun k hk => by cases hk⟩
theorem RdT.y (h : RdT w A l) (hg : Grew w w' e row) (hne : e ≠ 5) : RdT w' A l := by
  have hne' := grew_blk hg h.2 hne
  refine ⟨h.1.grown hg.g hne', fun k hk => (h.2 k hk).keep (hg.g.block k (h.2 k hk).lt (fun e => ?_))⟩
  rcases hne' with h1 | h1
  · rw [h1] at hk; cases hk
  · exact h1 (hk.trans e)
theorem RdT.m (h : RdT w A l) (hg : GrewM w w' b) : RdT w' A l := by
  have hne' := growm_blk hg h.2
  refine ⟨h.1.grown hg.g hne', fun k hk => (h.2 k hk).keep (hg.g.block k (h.2 k hk).lt (fun e => ?_))⟩
  rcases hne' with h1 | h1
  · rw [h1] at hk; cases hk
  · exact h1 (hk.trans e)
theorem OwnH.to_RdT (h : OwnH w lo hi A c l) : RdT w A l := ⟨h.to_Rd, RowH.ty h⟩
end
def gBytes : GoT (List UInt8) where
  sz := 1
  tys := [5]
  R w cs l := ∃ A c, cs = [.slice A l.length c] ∧ Rd w A l ∧ l.length ≤ c ∧ c ≤ maxLen
  T w cs l := ∃ A c, cs = [.slice A l.length c] ∧ RdT w A l ∧ l.length ≤ c ∧ c ≤ maxLen
  len h := by obtain ⟨A, c, rfl, _⟩ := h; rfl
  u h hb := by obtain ⟨A, c, e, h1, h2⟩ := h; exact ⟨A, c, e, h1.below hb, h2⟩
  tr h := by obtain ⟨A, c, e, h1, h2⟩ := h; exact ⟨A, c, e, h1.1, h2⟩
  tu h hb := by obtain ⟨A, c, e, h1, h2⟩ := h; exact ⟨A, c, e, h1.u hb, h2⟩
  ty h hg hne := by obtain ⟨A, c, e, h1, h2⟩ := h; exact ⟨A, c, e, h1.y hg (by simpa using hne), h2⟩
  tm h hg := by obtain ⟨A, c, e, h1, h2⟩ := h; exact ⟨A, c, e, h1.m hg, h2⟩

/-- An array of n bytes. -/
def gArr (n : Nat) : GoT { l : List UInt8 // l.length = n } where
  sz := n
  tys := []
  R _ cs a := cs = B8 a.1
  T _ cs a := cs = B8 a.1
  len := fun {w cs a} h => by rw [h, B8_length]; exact a.2
  u h _ := h
  tr h := h
  tu h _ := h
  ty h _ _ := h
  tm h _ := h

/-- One after the other. -/
def GoT.pair {α β : Type} (X : GoT α) (Y : GoT β) : GoT (α × β) where
  sz := X.sz + Y.sz
  tys := X.tys ++ Y.tys
  R w cs a := ∃ c1 c2, cs = c1 ++ c2 ∧ X.R w c1 a.1 ∧ Y.R w c2 a.2
  T w cs a := ∃ c1 c2, cs = c1 ++ c2 ∧ X.T w c1 a.1 ∧ Y.T w c2 a.2
  len h := by obtain ⟨c1, c2, rfl, h1, h2⟩ := h; rw [List.length_append, X.len h1, Y.len h2]
  u h hb := by obtain ⟨c1, c2, e, h1, h2⟩ := h; exact ⟨c1, c2, e, X.u h1 hb, Y.u h2 hb⟩
  tr h := by obtain ⟨c1, c2, e, h1, h2⟩ := h; exact ⟨c1, c2, e, X.tr h1, Y.tr h2⟩
  tu h hb := by obtain ⟨c1, c2, e, h1, h2⟩ := h; exact ⟨c1, c2, e, X.tu h1 hb, Y.tu h2 hb⟩
  ty h hg hne := by
    obtain ⟨c1, c2, e, h1, h2⟩ := h
    rw [List.mem_append, not_or] at hne
    exact ⟨c1, c2, e, X.ty h1 hg hne.1, Y.ty h2 hg hne.2⟩
  tm h hg := by obtain ⟨c1, c2, e, h1, h2⟩ := h; exact ⟨c1, c2, e, X.tm h1 hg, Y.tm h2 hg⟩
/-- In other words. -/
def GoT.map {α β : Type} (f : α → β) (X : GoT α) : GoT β where
  sz := X.sz
  tys := X.tys
  R w cs b := ∃ a, f a = b ∧ X.R w cs a
  T w cs b := ∃ a, f a = b ∧ X.T w cs a
  len h := by obtain ⟨a, _, h⟩ := h; exact X.len h
  u h hb := by obtain ⟨a, e, h⟩ := h; exact ⟨a, e, X.u h hb⟩
  tr h := by obtain ⟨a, e, h⟩ := h; exact ⟨a, e, X.tr h⟩
  tu h hb := by obtain ⟨a, e, h⟩ := h; exact ⟨a, e, X.tu h hb⟩
  ty h hg hne := by obtain ⟨a, e, h⟩ := h; exact ⟨a, e, X.ty h hg hne⟩
  tm h hg := by obtain ⟨a, e, h⟩ := h; exact ⟨a, e, X.tm h hg⟩

/-- Part i of the cells xs, parts of m cells. -/
def part (xs : List Value) (m i : Nat) : List Value := (xs.drop (i * m)).take m
theorem part_get {xs : List Value} {m i j : Nat} (hj : j < m) : (part xs m i)[j]? = xs[i * m + j]? := by
  unfold part
  rw [List.getElem?_take_of_lt hj, List.getElem?_drop]
/-- The cells at A, from the k-th on. -/
def CellsAt (w : World) (A : Option Addr) (k : Nat) (cs : List Value) : Prop := ∀ j v, cs[j]? = some v → w.cell? (adr A (k + j)) = some v
section
variable {w w' : World} {A : Option Addr} {k n m : Nat} {cs xs : List Value}
theorem CellsAt.u (h : CellsAt w A k cs) (hb : Below w.heap.size w w') : CellsAt w' A k cs := fun j v hj => (hb.cell (block_lt_of_cell (h j v hj))).trans (h j v hj)
theorem CellsAt.d (h : CellsAt w A k cs) : CellsAt w.drew A k cs := h
theorem Reads.cellsAt {i : Nat} (h : Reads w m A n xs) (hi : i < n) (h0 : 0 < m) : CellsAt w A (i * m) (part xs m i) := fun j v hj => by
  have hne : xs ≠ [] := fun e => by
    have := h.1
    rw [e, List.length_nil] at this
    rcases Nat.mul_eq_zero.1 this.symm with h | h <;> omega
  have hjm : j < m := by
    rcases Nat.lt_or_ge j m with h1 | h1
    · exact h1
    · rw [List.getElem?_eq_none (by unfold part; rw [List.length_take]; omega)] at hj; cases hj
  rw [part_get hjm] at hj
  exact (h.adr_ hne).2 _ _ hj
end
/-- A slice. -/
def GoT.slice {α : Type} (e : TypeId) (X : GoT α) : GoT (List α) where
  sz := 1
  tys := e :: X.tys
  R w cs l := ∃ A c xs, cs = [.slice A l.length c] ∧ l.length ≤ c ∧ c ≤ maxLen ∧ Reads w X.sz A l.length xs ∧ ∀ i (h : i < l.length), X.R w (part xs X.sz i) l[i]
  T w cs l := ∃ A c xs, cs = [.slice A l.length c] ∧ l.length ≤ c ∧ c ≤ maxLen ∧ Reads w X.sz A l.length xs ∧ (∀ k, blk A = some k → TyAt w k e) ∧ ∀ i (h : i < l.length), X.T w (part xs X.sz i) l[i]
  len h := by obtain ⟨A, c, xs, rfl, _⟩ := h; rfl
  u h hb := by obtain ⟨A, c, xs, e, h1, h2, h3, h4⟩ := h; exact ⟨A, c, xs, e, h1, h2, h3.below hb, fun i hi => X.u (h4 i hi) hb⟩
  tr h := by obtain ⟨A, c, xs, e, h1, h2, h3, _, h4⟩ := h; exact ⟨A, c, xs, e, h1, h2, h3, fun i hi => X.tr (h4 i hi)⟩
  tu h hb := by
    obtain ⟨A, c, xs, e, h1, h2, h3, h4, h5⟩ := h
    exact ⟨A, c, xs, e, h1, h2, h3.below hb, fun k hk => (h4 k hk).keep (hb.block k (h4 k hk).lt), fun i hi => X.tu (h5 i hi) hb⟩
  ty h hg hne := by
    obtain ⟨A, c, xs, e, h1, h2, h3, h4, h5⟩ := h
    rw [List.mem_cons, not_or] at hne
    have hb := grew_blk hg h4 hne.1
    refine ⟨A, c, xs, e, h1, h2, h3.grown hg.g hb, fun k hk => (h4 k hk).keep (hg.g.block k (h4 k hk).lt (fun e => ?_)), fun i hi => X.ty (h5 i hi) hg hne.2⟩
    rcases hb with h6 | h6
    · rw [h6] at hk; cases hk
    · exact h6 (hk.trans e)
  tm h hg := by
    obtain ⟨A, c, xs, e, h1, h2, h3, h4, h5⟩ := h
    have hb := growm_blk hg h4
    refine ⟨A, c, xs, e, h1, h2, h3.grown hg.g hb, fun k hk => (h4 k hk).keep (hg.g.block k (h4 k hk).lt (fun e => ?_)), fun i hi => X.tm (h5 i hi) hg⟩
    rcases hb with h6 | h6
    · rw [h6] at hk; cases hk
    · exact h6 (hk.trans e)

/-- The elements of a slice. -/
def RSl {α : Type} (X : GoT α) (w : World) (A : Option Addr) (L : List α) : Prop := ∃ xs, Reads w X.sz A L.length xs ∧ ∀ i (h : i < L.length), X.R w (part xs X.sz i) L[i]
section
variable {α : Type} {X : GoT α} {w w' : World} {A : Option Addr} {L : List α}
theorem RSl.u (h : RSl X w A L) (hb : Below w.heap.size w w') : RSl X w' A L := by obtain ⟨xs, h1, h2⟩ := h; exact ⟨xs, h1.below hb, fun i hi => X.u (h2 i hi) hb⟩
theorem RSl.some_ (h : RSl X w A L) (h0 : 0 < X.sz) (hl : 0 < L.length) : A = some (A.getD ⟨0, 0, none⟩) := by obtain ⟨xs, h1, h2⟩ := h; exact h1.some_ h0 hl
theorem RSl.elem (h : RSl X w A L) (h0 : 0 < X.sz) {i : Nat} (hi : i < L.length) : ∃ cs, CellsAt w A (i * X.sz) cs ∧ X.R w cs L[i] := by obtain ⟨xs, h1, h2⟩ := h; exact ⟨_, h1.cellsAt hi h0, h2 i hi⟩
theorem RSl.nil (X : GoT α) (w : World) (A : Option Addr) : RSl X w A [] := ⟨[], Reads.none_ _ _ _, fun i h => absurd h (Nat.not_lt_zero _)⟩
theorem slice_RSl {e : TypeId} {cs : List Value} (h : (GoT.slice e X).R w cs L) : ∃ A c, cs = [.slice A L.length c] ∧ RSl X w A L ∧ L.length ≤ c ∧ c ≤ maxLen := by
  obtain ⟨A, c, xs, rfl, h1, h2, h3, h4⟩ := h
  exact ⟨A, c, rfl, ⟨xs, h3, h4⟩, h1, h2⟩
end

/-! Arguments, opened. -/
/-- Whatever is read of type t is a value of X. -/
structure Opens {α : Type} (P : Program) (t : TypeId) (X : GoT α) : Prop where
  cells : P.cellsOf t = X.sz
  o : ∀ (H : Type) (enc : TypeId × Value → H) (W : World) (fuel : Nat) (cs : List Value) (x : DataW H × List MemPlace), DataW.trod enc P W 0 (fun _ => true) true fuel t cs = some x → ∃ a, X.R W cs a
section
variable {α β γ δ : Type} {P : Program} {t e : TypeId}
theorem opens_int {k : IntKind} (hu : P.underlying t = some (.int k)) (hc : P.cellsOf t = 1) : Opens P t (gInt k) := ⟨hc, fun H enc W fuel cs x h => by
  obtain ⟨n, rfl, _, hw⟩ := DataW.trod_int hu h
  exact ⟨n, rfl, hw⟩⟩
theorem opens_bool (hu : P.underlying t = some .bool) (hc : P.cellsOf t = 1) : Opens P t gBool := ⟨hc, fun H enc W fuel cs x h => by
  obtain ⟨n, rfl, _⟩ := DataW.trod_bool hu h
  exact ⟨n, rfl, trivial⟩⟩
theorem opens_bytes (hu : P.underlying t = some (.slice 5)) (he : P.underlying 5 = some (.int .u8)) (hc : P.cellsOf 5 = 1) (ht : P.cellsOf t = 1) : Opens P t gBytes := ⟨ht, fun H enc W fuel cs x h => by
  rcases open_ints hu he hc h with ⟨hcs, hx⟩ | ⟨a, len, cap, zs, hcs, _, hl, hm, hz, hx, hcell, hwz⟩
  · exact ⟨[], none, 0, hcs, Rd.nil _ _, Nat.le_refl _, Nat.zero_le _⟩
  · have hzl : zs.length = cap := by simpa using hz
    have hr : Reads W 1 (some a) (zs.take len).length ((zs.take len).map (Value.int .u8)) := by
      have := reads_of_cells (w := W) (a := a) (xs := (zs.take len).map (Value.int .u8)) (fun i v hv => by
        have hi : i < (zs.take len).length := by
          rcases Nat.lt_or_ge i (zs.take len).length with h | h
          · exact h
          · rw [List.getElem?_eq_none (by simpa using h)] at hv; cases hv
        rw [List.length_take] at hi
        rw [hcell i (by omega)]
        have hi2 : i < zs.length := by omega
        rw [List.getElem?_map, List.getElem?_take_of_lt (by omega), List.getElem?_eq_getElem hi2] at hv
        rw [← Option.some.inj hv]
        simp [hi2])
      simpa using this
    have hb : ∀ n ∈ zs.take len, n = (((UInt8.ofNat n.toNat).toNat : Nat) : Int) := fun n hn => by
      have h1 := bounds_u8 (hwz n (List.mem_of_mem_take hn))
      exact byte_of n h1.1 h1.2
    have e : (zs.take len).map (Value.int .u8) = B8 ((zs.take len).map fun n => UInt8.ofNat n.toNat) := by
      unfold B8
      rw [List.map_map]
      exact List.map_congr_left fun n hn => by simp only [Function.comp]; rw [← hb n hn]
    refine ⟨(zs.take len).map fun n => UInt8.ofNat n.toNat, some a, cap, ?_, ?_, by simp; omega, hm⟩
    · rw [hcs]; simp; omega
    · unfold Rd
      rw [← e, List.length_map]
      exact hr⟩
theorem part_append_lt {xs ys : List Value} {m i k : Nat} (hx : xs.length = k * m) (hi : i < k) : part (xs ++ ys) m i = part xs m i := by
  have h1 : (i + 1) * m ≤ k * m := Nat.mul_le_mul_right _ hi
  rw [Nat.add_mul, Nat.one_mul] at h1
  unfold part
  rw [List.drop_append_of_le_length (by omega), List.take_append_of_le_length (by rw [List.length_drop]; omega)]
theorem part_append_eq {xs ys : List Value} {m k : Nat} (hx : xs.length = k * m) (hy : ys.length = m) : part (xs ++ ys) m k = ys := by
  unfold part
  rw [← hx, List.drop_left, ← hy, List.take_length]
theorem build_rows {X : GoT α} {W : World} {a : Addr} : ∀ (k : Nat), (∀ i, i < k → ∃ cs' z, W.cells? 0 (a.add (i * X.sz)) X.sz = some cs' ∧ X.R W cs' z) →
    ∃ (l : List α) (xs : List Value), l.length = k ∧ xs.length = k * X.sz ∧ (∀ j v, xs[j]? = some v → W.cell? (a.add j) = some v) ∧ ∀ i (h : i < l.length), X.R W (part xs X.sz i) l[i]
  | 0, _ => ⟨[], [], rfl, by simp, fun j v h => by simp at h, fun i h => absurd h (Nat.not_lt_zero _)⟩
  | k + 1, h => by
    obtain ⟨l, xs, h1, h2, h3, h4⟩ := build_rows k (fun i hi => h i (by omega))
    obtain ⟨cs', z, h5, h6⟩ := h k (by omega)
    obtain ⟨_, h7, h8⟩ := World.cells?_some h5
    refine ⟨l ++ [z], xs ++ cs', by simp [h1], by rw [List.length_append, h2, h7, Nat.add_mul, Nat.one_mul], fun j v hj => ?_, fun i hi => ?_⟩
    · rcases Nat.lt_or_ge j xs.length with hl | hl
      · rw [List.getElem?_append_left hl] at hj
        exact h3 j v hj
      · rw [List.getElem?_append_right hl] at hj
        have hjl : j - xs.length < X.sz := by
          rcases Nat.lt_or_ge (j - xs.length) X.sz with h9 | h9
          · exact h9
          · rw [List.getElem?_eq_none (by omega)] at hj; cases hj
        have := h8 _ hjl
        rw [hj, add_of_add] at this
        rw [← this]
        congr 2
        omega
    · rcases Nat.lt_or_ge i l.length with hl | hl
      · rw [part_append_lt h2 (by omega), List.getElem_append_left hl]
        exact h4 i hl
      · have hik : i = k := by simp at hi; omega
        subst hik
        rw [part_append_eq h2 h7, List.getElem_append_right hl]
        simpa using h6
theorem opens_slice {X : GoT α} (hu : P.underlying t = some (.slice e)) (hc : P.cellsOf t = 1) (h0 : 0 < X.sz) (hX : Opens P e X) : Opens P t (GoT.slice e X) := ⟨hc, fun H enc W fuel cs x h => by
  rcases Go.Deep.open_slice hu h with ⟨rfl, _⟩ | ⟨a, len, cap, m, n, D, Pl, rfl, _, hl, hm, hmm, _, hx⟩
  · exact ⟨[], none, 0, [], rfl, Nat.le_refl _, Nat.zero_le _, Reads.none_ _ _ _, fun i h => absurd h (Nat.not_lt_zero _)⟩
  · rw [if_pos rfl] at hmm
    subst hmm
    obtain ⟨l, xs, h1, h2, h3, h4⟩ := build_rows (X := X) (W := W) (a := a) len (fun i hi => by
      obtain ⟨cs', h1, h2⟩ := hx i (by omega)
      obtain ⟨z, hz⟩ := hX.o _ _ _ _ _ _ h2
      rw [hX.cells] at h1
      exact ⟨cs', z, h1, hz⟩)
    refine ⟨l, some a, m, xs, by rw [h1], by omega, hm, ⟨by rw [h1]; exact h2, fun hn => ?_⟩, h4⟩
    have h00 : ∃ v, xs[0]? = some v := by
      cases xs with
      | nil => exact absurd rfl hn
      | cons x _ => exact ⟨x, rfl⟩
    obtain ⟨v0, hv0⟩ := h00
    have hc := h3 0 v0 hv0
    rw [show a.add 0 = a by simp [Addr.add]] at hc
    have hs := spot_of_cell hc
    exact ⟨a.block, a.off, by rw [← hs], fun j u hu => by rw [← add_plain, ← hs]; exact h3 j u hu⟩⟩
theorem opens_arr8 {n : Nat} (hu : P.underlying t = some (.array n 5)) (he : P.underlying 5 = some (.int .u8)) (hc : P.cellsOf 5 = 1) (ht : P.cellsOf t = n) : Opens P t (gArr n) := ⟨ht, fun H enc W fuel cs x h => by
  obtain ⟨xs, m, _, _, hl, _, hx⟩ := DataW.trod_array hu h
  rw [ht] at hl
  obtain ⟨l, rfl⟩ := bytes_of_vals cs (fun v hv => by
    obtain ⟨i, hi, rfl⟩ := List.mem_iff_getElem.1 hv
    have h1 := hx i (by omega)
    rw [hc, Nat.mul_one, List.drop_eq_getElem_cons hi, List.take_succ_cons, List.take_zero] at h1
    have hxi : i < xs.length := by omega
    rw [List.getElem?_eq_getElem hxi] at h1
    obtain ⟨z, e, _, hw⟩ := DataW.trod_int he h1
    injection e with e _
    exact ⟨z, e, bounds_u8 hw⟩)
  exact ⟨⟨l, by rw [← hl, B8_length]⟩, rfl⟩⟩
/-- Fields, one after the other. -/
inductive OpensF (P : Program) : (α : Type) → List Field → Nat → GoT α → Prop where
  | one {α : Type} {f : Field} {off : Nat} {X : GoT α} (h : Opens P f.type X) (ho : f.offset = off) : OpensF P α [f] off X
  | more {α β : Type} {f : Field} {fs : List Field} {off : Nat} {X : GoT α} {Y : GoT β} (h : Opens P f.type X) (ho : f.offset = off) (hr : OpensF P β fs (off + X.sz) Y) : OpensF P (α × β) (f :: fs) off (X.pair Y)
theorem OpensF.open_ {α : Type} {fs : List Field} {off : Nat} {X : GoT α} (hF : OpensF P α fs off X) (H : Type) (enc : TypeId × Value → H) (W : World) (fuel : Nat) : ∀ (cs : List Value), cs.length = off + X.sz →
    (∀ (i : Nat) (f : Field), fs[i]? = some f → ∃ x, DataW.trod enc P W 0 (fun _ => true) true fuel f.type ((cs.drop f.offset).take (P.cellsOf f.type)) = some x) → ∃ a, X.R W (cs.drop off) a := by
  induction hF with
  | one h ho =>
    intro cs hl hx
    obtain ⟨x, h1⟩ := hx 0 _ rfl
    rw [ho, h.cells] at h1
    obtain ⟨a, ha⟩ := h.o _ _ _ _ _ _ h1
    rw [List.take_of_length_le (by rw [List.length_drop]; omega)] at ha
    exact ⟨a, ha⟩
  | @more α β f fs off X Y h ho hr ih =>
    intro cs hl hx
    have hl' : cs.length = off + (X.sz + Y.sz) := hl
    obtain ⟨x, h1⟩ := hx 0 f rfl
    rw [ho, h.cells] at h1
    obtain ⟨a, ha⟩ := h.o _ _ _ _ _ _ h1
    obtain ⟨b, hb⟩ := ih cs (by omega) (fun i f' hf => hx (i + 1) f' (by simpa using hf))
    refine ⟨(a, b), _, _, ?_, ha, hb⟩
    rw [← List.drop_drop, List.take_append_drop]
theorem opens_struct {α : Type} {fs : List Field} {X : GoT α} (hu : P.underlying t = some (.struct fs.toArray)) (hc : P.cellsOf t = X.sz) (hF : OpensF P α fs 0 X) : Opens P t X := ⟨hc, fun H enc W fuel cs x h => by
  obtain ⟨xs, n, rfl, _, hl, hn, hx⟩ := DataW.trod_struct hu h
  have := hF.open_ H enc W n cs (by rw [hl, hc]; omega) (fun i f hf => by
    have h1 := hx i f (by simpa using hf)
    have hi : i < xs.length := by
      rw [hn]
      rcases Nat.lt_or_ge i fs.toArray.size with h2 | h2
      · exact h2
      · rw [List.getElem?_eq_none (by simpa using h2)] at hf; cases hf
    rw [List.getElem?_eq_getElem hi] at h1
    exact ⟨_, h1⟩)
  simpa using this⟩
theorem opens_map {α β : Type} {f : α → β} {X : GoT α} (h : Opens P t X) : Opens P t (X.map f) := ⟨h.cells, fun H enc W fuel cs x hx => by
  obtain ⟨a, ha⟩ := h.o _ _ _ _ _ _ hx
  exact ⟨f a, a, rfl, ha⟩⟩
end
/-- A law's argument, of a struct's or an array's type. -/
theorem open_agg {α : Type} {H : Type} {enc : TypeId × Value → H} {P : Program} {W : World} {base : Nat} {t : TypeId} {X : GoT α} (hX : Opens P t X) (hu : (∃ fs, P.underlying t = some (.struct fs)) ∨ ∃ n e, P.underlying t = some (.array n e)) {v : Value} {d : DataW H} {p : List MemPlace}
    (hok : Value.okWide P W .any base t v) (h : DataW.Trod enc P W 0 (fun _ => true) true t v d p) : ∃ (cs : List Value) (a : α), v = .agg cs.toArray ∧ X.R W cs a := by
  obtain ⟨fuel, hf⟩ := h
  obtain ⟨a, ha⟩ := hX.o _ _ _ _ _ _ hf
  have hv : ∃ cs, v = .agg cs := by
    rcases hu with ⟨fs, hu⟩ | ⟨n, e, hu⟩ <;> (simp only [Value.okWide, hu] at hok; obtain ⟨cs, rfl, _⟩ := hok; exact ⟨cs, rfl⟩)
  obtain ⟨cs, rfl⟩ := hv
  exact ⟨cs.toList, a, rfl, ha⟩
theorem open_slc {α : Type} {H : Type} {enc : TypeId × Value → H} {P : Program} {W : World} {base : Nat} {t e : TypeId} {X : GoT α} (hX : Opens P t X) (hu : P.underlying t = some (.slice e)) {v : Value} {d : DataW H} {p : List MemPlace}
    (hok : Value.okWide P W .any base t v) (h : DataW.Trod enc P W 0 (fun _ => true) true t v d p) : ∃ (a : α), X.R W [v] a := by
  obtain ⟨A, n, c, rfl⟩ := okWide_slice hu hok
  obtain ⟨fuel, hf⟩ := h
  exact hX.o _ _ _ _ _ _ hf
end Go.Proofs.Ytpjedpmbninfcaa
