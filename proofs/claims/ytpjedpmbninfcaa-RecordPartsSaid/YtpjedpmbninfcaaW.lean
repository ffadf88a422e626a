/-
  Rows of numbers of any kind (one cell each), of the call's own: made, read, written, appended. No function of the program is named here.
-/
import Derived.Test.YtpjedpmbninfcaaAuto
namespace Go.Proofs.Ytpjedpmbninfcaa
open Go.RowKit
def vK (k : IntKind) (l : List Nat) : List Value := l.map fun x : Nat => .int k (x : Int)
theorem vK_length (k : IntKind) (l : List Nat) : (vK k l).length = l.length := List.length_map ..
theorem vK_one (k : IntKind) (l : List Nat) : ∀ v ∈ vK k l, v.oneCell' = true := fun v h => by
  obtain ⟨x, _, rfl⟩ := List.mem_map.1 h; rfl
theorem vK_get {k : IntKind} {l : List Nat} {j : Nat} (h : j < l.length) : (vK k l)[j]? = some (.int k (l[j] : Int)) := by
  unfold vK; rw [List.getElem?_map, List.getElem?_eq_getElem h]; rfl
theorem vK_append (k : IntKind) (l m : List Nat) : vK k (l ++ m) = vK k l ++ vK k m := List.map_append ..
theorem vK_set (k : IntKind) (l : List Nat) (j a : Nat) : vK k (l.set j a) = (vK k l).set j (.int k (a : Int)) := by
  unfold vK; rw [List.map_set]
/-- Numbers that are read. -/
def RdK (k : IntKind) (w : World) (A : Option Addr) (l : List Nat) : Prop := Reads w 1 A l.length (vK k l)
/-- A row of the call's own. -/
def OwnK (k : IntKind) (e : TypeId) (w : World) (lo hi : Nat) (A : Option Addr) (c : Nat) (l : List Nat) : Prop := RowH w lo hi e 1 A l.length c (vK k l)
theorem OwnK.k {q : IntKind} {w w' : World} {lo hi c : Nat} {e : TypeId} {A : Option Addr} {l : List Nat} {row : Option Nat} (h : OwnK q e w lo hi A c l) (hg : w.grownBy w' row) (ha : Ap row lo hi) : OwnK q e w' lo hi A c l := RowH.k h hg ha
section
variable {k : IntKind} {w w' : World} {lo hi c b : Nat} {e e' : TypeId} {A : Option Addr} {l : List Nat} {row : Option Nat}
theorem RdK.u (h : RdK k w A l) (hb : Below w.heap.size w w') : RdK k w' A l := h.below hb
theorem RdK.d (h : RdK k w A l) : RdK k w.drew A l := h
theorem RdK.nil_ : RdK k w none [] := Reads.none_ _ _ _
theorem RdK.some_ (h : RdK k w A l) (hl : 0 < l.length) : A = some (A.getD ⟨0, 0, none⟩) := Reads.some_ h (by decide) hl
theorem OwnK.u (h : OwnK k e w lo hi A c l) (hb : Below w.heap.size w w') : OwnK k e w' lo hi A c l := RowH.u h hb
theorem OwnK.d (h : OwnK k e w lo hi A c l) : OwnK k e w.drew lo hi A c l := RowH.d h
theorem OwnK.y (h : OwnK k e w lo hi A c l) (hg : Grew w w' e' row) (hne : e' ≠ e) : OwnK k e w' lo hi A c l := RowH.y h hg hne
theorem OwnK.m (h : OwnK k e w lo hi A c l) (hg : GrewM w w' b) : OwnK k e w' lo hi A c l := RowH.m h hg
theorem OwnK.ap {lo' hi' : Nat} (h : OwnK k e w lo hi A c l) (hd : hi ≤ lo' ∨ hi' ≤ lo) : Ap (blk A) lo' hi' := RowH.ap h hd
theorem OwnK.cap (h : OwnK k e w lo hi A c l) : l.length ≤ c := RowH.cap h
theorem OwnK.to_RdK (h : OwnK k e w lo hi A c l) : RdK k w A l := RowH.rd h
theorem OwnK.nil_ : OwnK k e w lo hi none 0 [] := RowH.nil _ _ _ _ _
theorem OwnK.base {lo' hi' : Nat} (h : OwnK k e w lo hi A c l) (h1 : lo' ≤ lo) (h2 : hi ≤ hi') : OwnK k e w lo' hi' A c l := RowH.base h h1 h2
theorem OwnK.some_ (h : OwnK k e w lo hi A c l) (hl : 0 < l.length) : A = some (A.getD ⟨0, 0, none⟩) := h.to_RdK.some_ hl
/-- A row that is there begins at the beginning of its block. -/
theorem OwnK.at_ (h : OwnK k e w lo hi A c l) (hl : 0 < l.length) : ∃ g, A = some ⟨g, 0, none⟩ ∧ blk A = some g := by
  rcases h.o.2 with ⟨h', h0⟩ | ⟨g, cap, cur, hv, _⟩
  · omega
  · injection hv with hv
    exact ⟨g, hv, by rw [hv]; rfl⟩
theorem OwnK.stored {j a : Nat} (h : OwnK k e w lo hi A c l) (hj : j < l.length) :
    OwnK k e (w.setCell (adr A j) (.int k (a : Int))) lo hi A c (l.set j a) ∧ Grew w (w.setCell (adr A j) (.int k (a : Int))) e (blk A) ∧ (w.setCell (adr A j) (.int k (a : Int))).heap.size = w.heap.size ∧ w.frozen? (adr A j) = false ∧ (w.cell? (adr A j)).isSome = true := by
  obtain ⟨g, rfl, hb⟩ := h.at_ (by omega)
  have e1 : adr (some ⟨g, 0, none⟩) j = ⟨g, j, none⟩ := by simp [adr, add_plain]
  rw [e1]
  have h1 := World.ownsRow.stored h.o j (.int k (a : Int))
  refine ⟨⟨?_, h.hi⟩, ⟨by rw [hb]; exact h1.2, RowH.ty h⟩, ?_, World.ownsRow.frozenAt h.o j, ?_⟩
  · show World.ownsRow _ lo e 1 _ (l.set j a).length _
    rw [List.length_set, vK_set]; exact h1.1
  · exact Nat.le_antisymm (by simp) h1.2.size
  · have := (RowH.rd h).adr_ (fun e0 => by have := vK_length k l; rw [e0] at this; simp at this; omega)
    have h2 := this.2 j _ (vK_get (k := k) hj)
    rw [e1] at h2; rw [h2]; rfl
end
section
variable {P : Program} {fn : Func} {F : Ending → World → Prop} {N : Nat} {ks : List K} {ops : Array Oper} {tg : Tags} {l : List Oper} {fr : Fr} {w : World} {ty t e : TypeId} {z : Value} {k k1 k2 : IntKind} {pos : String} {aft : Array Edge} {gd : Option (Nat × Bool)} {d n c a j q lo hi bytes : Nat} {x y : Operand} {A X : Option Addr} {zs ms : List Nat}
--@ rule load r o_ldK
theorem o_ldK (ha' : ∀ w, (isAgg t).run P w = .ok false w) (hx : fr.ev x = some (.pointer (some (adr A j)))) (hr : RdK k w A zs) (hj : j < zs.length) : OpV P N fr w (.load t x) ty (.int k (zs[j] : Int)) w :=
  o_loadA1 ha' hx hr (vK_get hj)
--@ rule store l wl_stK
theorem wl_stK (hs : ∀ w, (sizeOf t).run P w = .ok 1 w) (hx : fr.ev x = some (.pointer (some (adr A j)))) (hown : OwnK k e w lo hi A c zs) (hy : fr.ev y = some (.int k (a : Int))) (hj : j < zs.length)
    (hk : ∀ w', OwnK k e w' lo hi A c (zs.set j a) → Grew w w' e (blk A) → Below lo w w' → w'.heap.size = w.heap.size → WL P fn F N ks ops tg.tail l fr w') (ht : tg.loud = true := by rfl) (hg : onG ops fr gd = true := by rfl) (hq : tg.calm = false ∨ blk A = tg.row := by exact .inl rfl) :
    WL P fn F N ks ops tg (⟨none, .store t x y, ty, pos, aft, gd⟩ :: l) fr w := by
  obtain ⟨h1, h2, h3, h4, h5⟩ := hown.stored (a := a) hj
  obtain ⟨u, hu⟩ := Option.isSome_iff_exists.1 h5
  obtain ⟨g, e1, e2⟩ := hown.at_ (by omega)
  have eg : adr A j = ⟨g, j, none⟩ := by rw [e1]; simp [adr, add_plain]
  rw [eg] at hx hu h4 h1 h2 h3
  refine wl_u (o_store hs hx hy rfl hu h4) (hk _ h1 h2 ?_ h3) ht hg ?_
  · exact below_of_grownBy (by rw [← e2]; exact h2.g) (by have := RowH.lt hown g e2; omega) (by have := RowH.lt hown g e2; omega)
  · rcases hq with hq | hq
    · exact .inl hq
    · exact .inr (Rw.of (show w.grownBy _ tg.row by rw [← hq]; exact h2.g))
theorem wl_litK0 (T : RowT P t e z 1 bytes) (hs : ∀ w, (sizeOf e).run P w = .ok 1 w) (hz : ∀ w, (zeroValue e).run P w = .ok z w)
    (hk : ∀ A w', OwnK k e w' w.heap.size w'.heap.size A 0 [] → Below w.heap.size w w' → WL P fn F N ks ops tg.tail l ((d, .slice A 0 0) :: fr) w')
    (ht : tg.loud = true := by rfl) (hg : onG ops fr gd = true := by rfl) (hd : Nat.blt d N = true := by rfl) : WL P fn F N ks ops tg (⟨some d, .buildSlice t 0 #[], ty, pos, aft, gd⟩ :: l) fr w :=
  wl_litR (xs := []) (vs := []) T hs hz rfl rfl rfl rfl (fun v h => by cases h) (by simp) (fun A w' h1 h2 => hk A w' h1 h2) ht hg hd
theorem wl_appK0 (T : RowT P t e z 1 bytes) (hb : bytes ≤ 8) (hx : fr.ev x = some (.slice A 0 0)) (hown : OwnK k e w lo hi A 0 []) (hy : fr.ev y = some (.slice X j q)) (hr : RdK k w X zs) (hj : j = zs.length) (hlen : zs.length ≤ 1000000) (hB : lo ≤ w.heap.size)
    (h : ∀ A' c' w', OwnK k e w' lo w'.heap.size A' c' zs → Below w.heap.size w w' → WL P fn F N ks ops tg.tail l ((d, .slice A' zs.length c') :: fr) w')
    (ht : tg.loud = true := by rfl) (hg : onG ops fr gd = true := by rfl) (hd : Nat.blt d N = true := by rfl) :
    WL P fn F N ks ops tg (⟨some d, .call { callee := .builtin .append, args := #[x, y], argTypes := #[t, t] }, ty, pos, aft, gd⟩ :: l) fr w := by
  subst hj
  exact wl_appR0 T hx hown hy hr (vK_one k zs) (by simp only [maxLen]; omega) (by have := Nat.mul_le_mul hlen hb; omega) hB (fun A' c' w' h1 h2 => h A' c' w' h1 h2) ht hg hd
theorem wl_appK (T : RowT P t e z 1 bytes) (hb : bytes ≤ 8) (hx : fr.ev x = some (.slice A n c)) (hown : OwnK k e w lo hi A c zs) (hn : n = zs.length) (hy : fr.ev y = some (.slice X j q)) (hr : RdK k w X ms) (hj : j = ms.length) (hlen : zs.length + ms.length ≤ 1000000) (hB : lo ≤ w.heap.size)
    (h : ∀ A' c' w', OwnK k e w' lo w'.heap.size A' c' (zs ++ ms) → Grew w w' e (blk A) → Below lo w w' → (blk A' = blk A ∨ blk A' = some w.heap.size) → WL P fn F N ks ops tg.tail l ((d, .slice A' (zs ++ ms).length c') :: fr) w')
    (ht : tg.loud = true := by rfl) (hg : onG ops fr gd = true := by rfl) (hd : Nat.blt d N = true := by rfl) (hq : tg.calm = false ∨ blk A = none ∨ blk A = tg.row := by exact .inl rfl) :
    WL P fn F N ks ops tg (⟨some d, .call { callee := .builtin .append, args := #[x, y], argTypes := #[t, t] }, ty, pos, aft, gd⟩ :: l) fr w := by
  subst hn; subst hj
  refine wl_appR T hx hown hy hr (vK_one k ms) (by simp only [maxLen]; omega) (by have := Nat.mul_le_mul hlen hb; omega) hB (fun A' c' w' h1 h2 h3 h4 => ?_) ht hg hd hq
  have := h A' c' w' (by unfold OwnK; rw [vK_append, List.length_append]; exact h1) h2 h3 h4
  rwa [List.length_append] at this
theorem wl_mkK {C E : Int} (T : RowT P t e (.int k 0) 1 bytes) (hb : bytes ≤ 8) (n : Nat) (hx : fr.ev x = some (.int k1 E)) (hy : fr.ev y = some (.int k2 C)) (hE : E = (n : Int)) (hC : C = (n : Int)) (hn : n ≤ 1000000)
    (hk : ∀ A w', OwnK k e w' w.heap.size w'.heap.size A n (List.replicate n 0) → Below w.heap.size w w' → WL P fn F N ks ops tg.tail l ((d, .slice A n n) :: fr) w')
    (ht : tg.loud = true := by rfl) (hg : onG ops fr gd = true := by rfl) (hd : Nat.blt d N = true := by rfl) : WL P fn F N ks ops tg (⟨some d, .makeSlice t x y, ty, pos, aft, gd⟩ :: l) fr w := by
  subst hC; subst hE
  obtain ⟨i, hi, hz, hs, hb'⟩ := info_parts T.hi
  obtain ⟨w', hrun, r1, r2⟩ := run_make_full (P := P) w w.heap.size t e i _ 1 T.ht hi hz hs k1 k2 n (by rw [hb']; have := Nat.mul_le_mul hb hn; omega) (by simp only [maxLen]; omega) (Nat.le_refl _)
  have hbl : Below w.heap.size w w' := (Below.refl _ _).grown r2 (Nat.le_refl _) (by simp)
  have e : (madeCells (Value.int k 0).cells (n * 1)).toList = vK k (List.replicate n 0) := by
    rw [Nat.mul_one]; exact (toList_madeCells_one _ _).trans (by simp [vK])
  rw [e] at r1
  have ho : OwnK k _ w' w.heap.size w'.heap.size (some ⟨w.heap.size, 0, none⟩) n (List.replicate n 0) := ⟨by rw [List.length_replicate]; exact r1, fun b hb => (World.ownsRow.lt r1 b (by rw [blk_own]; exact hb)).2⟩
  exact wl_v (fun a ha o ho _ => by simp [execOp, ho, ha.ev hx, ha.ev hy, hrun]) (hk _ w' ho hbl) ht hg hd (.inr (grown_of_below hbl _))
end
end Go.Proofs.Ytpjedpmbninfcaa
