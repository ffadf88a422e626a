/-
  Rows of numbers of any kind (one cell each), of the call's own: made, read, written, appended. No function of the program is named here.
-/
import Derived.Test.YtahkeoegbjopfaaGreatMg3
import Derived.Laws.Externs
import Derived.Lib.Bytealg
import Derived.Lib.SlBytesConst
namespace Go.Proofs.YtahkeoegbjopfaaGreat
set_option maxRecDepth 100000
open Go.RowKit
def vK (k : IntKind) (l : List Nat) : List Value := l.map fun x : Nat => .int k (x : Int)
theorem vK_length (k : IntKind) (l : List Nat) : (vK k l).length = l.length := List.length_map ..
theorem vK_one (k : IntKind) (l : List Nat) : ∀ v ∈ vK k l, v.oneCell' = true := fun v h => by
  obtain ⟨x, _, rfl⟩ := List.mem_map.1 h; rfl
theorem vK_get {k : IntKind} {l : List Nat} {j : Nat} (h : j < l.length) : (vK k l)[j]? = some (.int k (l[j] : Int)) := by
  unfold vK; rw [List.getElem?_map, List.getElem?_eq_getElem h]; rfl
theorem vK_append (k : IntKind) (l m : List Nat) : vK k (l ++ m) = vK k l ++ vK k m := List.map_append ..
theorem vK_set (k : IntKind) (l : List Nat) (j a : Nat) : vK k (l.set j a) = (vK k l).set j (.int k (a : Int)) := by
  unfold vK; rw [List.map_set]
/-- Numbers that are read. -/
def RdK (k : IntKind) (w : World) (A : Option Addr) (l : List Nat) : Prop := Reads w 1 A l.length (vK k l)
/-- A row of the call's own. -/
def OwnK (k : IntKind) (e : TypeId) (w : World) (lo hi : Nat) (A : Option Addr) (c : Nat) (l : List Nat) : Prop := RowH w lo hi e 1 A l.length c (vK k l)
theorem OwnK.k {q : IntKind} {w w' : World} {lo hi c : Nat} {e : TypeId} {A : Option Addr} {l : List Nat} {row : Option Nat} (h : OwnK q e w lo hi A c l) (hg : w.grownBy w' row) (ha : Ap row lo hi) : OwnK q e w' lo hi A c l := RowH.k h hg ha
section
variable {k : IntKind} {w w' : World} {lo hi c b : Nat} {e e' : TypeId} {A : Option Addr} {l : List Nat} {row : Option Nat}
theorem RdK.u (h : RdK k w A l) (hb : Below w.heap.size w w') : RdK k w' A l := h.below hb
theorem RdK.d (h : RdK k w A l) : RdK k w.drew A l := h
theorem RdK.nil_ : RdK k w none [] := Reads.none_ _ _ _
theorem RdK.some_ (h : RdK k w A l) (hl : 0 < l.length) : A = some (A.getD ⟨0, 0, none⟩) := Reads.some_ h (by decide) hl
theorem OwnK.u (h : OwnK k e w lo hi A c l) (hb : Below w.heap.size w w') : OwnK k e w' lo hi A c l := RowH.u h hb
theorem OwnK.d (h : OwnK k e w lo hi A c l) : OwnK k e w.drew lo hi A c l := RowH.d h
theorem OwnK.y (h : OwnK k e w lo hi A c l) (hg : Grew w w' e' row) (hne : e' ≠ e) : OwnK k e w' lo hi A c l := RowH.y h hg hne
theorem OwnK.m (h : OwnK k e w lo hi A c l) (hg : GrewM w w' b) : OwnK k e w' lo hi A c l := RowH.m h hg
theorem OwnK.ap {lo' hi' : Nat} (h : OwnK k e w lo hi A c l) (hd : hi ≤ lo' ∨ hi' ≤ lo) : Ap (blk A) lo' hi' := RowH.ap h hd
theorem OwnK.cap (h : OwnK k e w lo hi A c l) : l.length ≤ c := RowH.cap h
theorem OwnK.to_RdK (h : OwnK k e w lo hi A c l) : RdK k w A l := RowH.rd h
theorem OwnK.nil_ : OwnK k e w lo hi none 0 [] := RowH.nil _ _ _ _ _
theorem OwnK.base {lo' hi' : Nat} (h : OwnK k e w lo hi A c l) (h1 : lo' ≤ lo) (h2 : hi ≤ hi') : OwnK k e w lo' hi' A c l := RowH.base h h1 h2
theorem OwnK.some_ (h : OwnK k e w lo hi A c l) (hl : 0 < l.length) : A = some (A.getD ⟨0, 0, none⟩) := h.to_RdK.some_ hl
/-- A row that is there begins at the beginning of its block. -/
theorem OwnK.at_ (h : OwnK k e w lo hi A c l) (hl : 0 < l.length) : ∃ g, A = some ⟨g, 0, none⟩ ∧ blk A = some g := by
  rcases h.o.2 with ⟨h', h0⟩ | ⟨g, cap, cur, hv, _⟩
  · omega
  · injection hv with hv
    exact ⟨g, hv, by rw [hv]; rfl⟩
theorem OwnK.stored {j a : Nat} (h : OwnK k e w lo hi A c l) (hj : j < l.length) :
    OwnK k e (w.setCell (adr A j) (.int k (a : Int))) lo hi A c (l.set j a) ∧ Grew w (w.setCell (adr A j) (.int k (a : Int))) e (blk A) ∧ (w.setCell (adr A j) (.int k (a : Int))).heap.size = w.heap.size ∧ w.frozen? (adr A j) = false ∧ (w.cell? (adr A j)).isSome = true := by
  obtain ⟨g, rfl, hb⟩ := h.at_ (by omega)
  have e1 : adr (some ⟨g, 0, none⟩) j = ⟨g, j, none⟩ := by simp [adr, add_plain]
  rw [e1]
  have h1 := World.ownsRow.stored h.o j (.int k (a : Int))
  refine ⟨⟨?_, h.hi⟩, ⟨by rw [hb]; exact h1.2, RowH.ty h⟩, ?_, World.ownsRow.frozenAt h.o j, ?_⟩
  · show World.ownsRow _ lo e 1 _ (l.set j a).length _
    rw [List.length_set, vK_set]; exact h1.1
  · exact Nat.le_antisymm (by simp) h1.2.size
  · have := (RowH.rd h).adr_ (fun e0 => by have := vK_length k l; rw [e0] at this; simp at this; omega)
    have h2 := this.2 j _ (vK_get (k := k) hj)
    rw [e1] at h2; rw [h2]; rfl
end
section
variable {P : Program} {fn : Func} {F : Ending → World → Prop} {N : Nat} {ks : List K} {ops : Array Oper} {tg : Tags} {l : List Oper} {fr : Fr} {w : World} {ty t e : TypeId} {z : Value} {k k1 k2 : IntKind} {pos : String} {aft : Array Edge} {gd : Option (Nat × Bool)} {d n c a j q lo hi bytes : Nat} {x y : Operand} {A X : Option Addr} {zs ms : List Nat}
--@ rule load r o_ldK
theorem o_ldK (ha' : ∀ w, (isAgg t).run P w = .ok false w) (hx : fr.ev x = some (.pointer (some (adr A j)))) (hr : RdK k w A zs) (hj : j < zs.length) : OpV P N fr w (.load t x) ty (.int k (zs[j] : Int)) w :=
  o_loadA1 ha' hx hr (vK_get hj)
--@ rule store l wl_stK
theorem wl_stK (hs : ∀ w, (sizeOf t).run P w = .ok 1 w) (hx : fr.ev x = some (.pointer (some (adr A j)))) (hown : OwnK k e w lo hi A c zs) (hy : fr.ev y = some (.int k (a : Int))) (hj : j < zs.length)
    (hk : ∀ w', OwnK k e w' lo hi A c (zs.set j a) → Grew w w' e (blk A) → Below lo w w' → w'.heap.size = w.heap.size → WL P fn F N ks ops tg.tail l fr w') (ht : tg.loud = true := by rfl) (hg : onG ops fr gd = true := by rfl) (hq : tg.calm = false ∨ blk A = tg.row := by exact .inl rfl) :
    WL P fn F N ks ops tg (⟨none, .store t x y, ty, pos, aft, gd⟩ :: l) fr w := by
  obtain ⟨h1, h2, h3, h4, h5⟩ := hown.stored (a := a) hj
  obtain ⟨u, hu⟩ := Option.isSome_iff_exists.1 h5
  obtain ⟨g, e1, e2⟩ := hown.at_ (by omega)
  have eg : adr A j = ⟨g, j, none⟩ := by rw [e1]; simp [adr, add_plain]
  rw [eg] at hx hu h4 h1 h2 h3
  refine wl_u (o_store hs hx hy rfl hu h4) (hk _ h1 h2 ?_ h3) ht hg ?_
  · exact below_of_grownBy (by rw [← e2]; exact h2.g) (by have := RowH.lt hown g e2; omega) (by have := RowH.lt hown g e2; omega)
  · rcases hq with hq | hq
    · exact .inl hq
    · exact .inr (Rw.of (show w.grownBy _ tg.row by rw [← hq]; exact h2.g))
theorem wl_litK0 (T : RowT P t e z 1 bytes) (hs : ∀ w, (sizeOf e).run P w = .ok 1 w) (hz : ∀ w, (zeroValue e).run P w = .ok z w)
    (hk : ∀ A w', OwnK k e w' w.heap.size w'.heap.size A 0 [] → Below w.heap.size w w' → WL P fn F N ks ops tg.tail l ((d, .slice A 0 0) :: fr) w')
    (ht : tg.loud = true := by rfl) (hg : onG ops fr gd = true := by rfl) (hd : Nat.blt d N = true := by rfl) : WL P fn F N ks ops tg (⟨some d, .buildSlice t 0 #[], ty, pos, aft, gd⟩ :: l) fr w :=
  wl_litR (xs := []) (vs := []) T hs hz rfl rfl rfl rfl (fun v h => by cases h) (by simp) (fun A w' h1 h2 => hk A w' h1 h2) ht hg hd
theorem wl_appK0 (T : RowT P t e z 1 bytes) (hb : bytes ≤ 8) (hx : fr.ev x = some (.slice A 0 0)) (hown : OwnK k e w lo hi A 0 []) (hy : fr.ev y = some (.slice X j q)) (hr : RdK k w X zs) (hj : j = zs.length) (hlen : zs.length ≤ 1000000) (hB : lo ≤ w.heap.size)
    (h : ∀ A' c' w', OwnK k e w' lo w'.heap.size A' c' zs → Below w.heap.size w w' → WL P fn F N ks ops tg.tail l ((d, .slice A' zs.length c') :: fr) w')
    (ht : tg.loud = true := by rfl) (hg : onG ops fr gd = true := by rfl) (hd : Nat.blt d N = true := by rfl) :
    WL P fn F N ks ops tg (⟨some d, .call { callee := .builtin .append, args := #[x, y], argTypes := #[t, t] }, ty, pos, aft, gd⟩ :: l) fr w := by
  subst hj
  exact wl_appR0 T hx hown hy hr (vK_one k zs) (by simp only [maxLen]; omega) (by have := Nat.mul_le_mul hlen hb; omega) hB (fun A' c' w' h1 h2 => h A' c' w' h1 h2) ht hg hd
theorem wl_appK (T : RowT P t e z 1 bytes) (hb : bytes ≤ 8) (hx : fr.ev x = some (.slice A n c)) (hown : OwnK k e w lo hi A c zs) (hn : n = zs.length) (hy : fr.ev y = some (.slice X j q)) (hr : RdK k w X ms) (hj : j = ms.length) (hlen : zs.length + ms.length ≤ 1000000) (hB : lo ≤ w.heap.size)
    (h : ∀ A' c' w', OwnK k e w' lo w'.heap.size A' c' (zs ++ ms) → Grew w w' e (blk A) → Below lo w w' → (blk A' = blk A ∨ blk A' = some w.heap.size) → WL P fn F N ks ops tg.tail l ((d, .slice A' (zs ++ ms).length c') :: fr) w')
    (ht : tg.loud = true := by rfl) (hg : onG ops fr gd = true := by rfl) (hd : Nat.blt d N = true := by rfl) (hq : tg.calm = false ∨ blk A = none ∨ blk A = tg.row := by exact .inl rfl) :
    WL P fn F N ks ops tg (⟨some d, .call { callee := .builtin .append, args := #[x, y], argTypes := #[t, t] }, ty, pos, aft, gd⟩ :: l) fr w := by
  subst hn; subst hj
  refine wl_appR T hx hown hy hr (vK_one k ms) (by simp only [maxLen]; omega) (by have := Nat.mul_le_mul hlen hb; omega) hB (fun A' c' w' h1 h2 h3 h4 => ?_) ht hg hd hq
  have := h A' c' w' (by unfold OwnK; rw [vK_append, List.length_append]; exact h1) h2 h3 h4
  rwa [List.length_append] at this
theorem wl_mkK {C E : Int} (T : RowT P t e (.int k 0) 1 bytes) (hb : bytes ≤ 8) (n : Nat) (hx : fr.ev x = some (.int k1 E)) (hy : fr.ev y = some (.int k2 C)) (hE : E = (n : Int)) (hC : C = (n : Int)) (hn : n ≤ 1000000)
    (hk : ∀ A w', OwnK k e w' w.heap.size w'.heap.size A n (List.replicate n 0) → Below w.heap.size w w' → WL P fn F N ks ops tg.tail l ((d, .slice A n n) :: fr) w')
    (ht : tg.loud = true := by rfl) (hg : onG ops fr gd = true := by rfl) (hd : Nat.blt d N = true := by rfl) : WL P fn F N ks ops tg (⟨some d, .makeSlice t x y, ty, pos, aft, gd⟩ :: l) fr w := by
  subst hC; subst hE
  obtain ⟨i, hi, hz, hs, hb'⟩ := info_parts T.hi
  obtain ⟨w', hrun, r1, r2⟩ := run_make_full (P := P) w w.heap.size t e i _ 1 T.ht hi hz hs k1 k2 n (by rw [hb']; have := Nat.mul_le_mul hb hn; omega) (by simp only [maxLen]; omega) (Nat.le_refl _)
  have hbl : Below w.heap.size w w' := (Below.refl _ _).grown r2 (Nat.le_refl _) (by simp)
  have e : (madeCells (Value.int k 0).cells (n * 1)).toList = vK k (List.replicate n 0) := by
    rw [Nat.mul_one]; exact (toList_madeCells_one _ _).trans (by simp [vK])
  rw [e] at r1
  have ho : OwnK k _ w' w.heap.size w'.heap.size (some ⟨w.heap.size, 0, none⟩) n (List.replicate n 0) := ⟨by rw [List.length_replicate]; exact r1, fun b hb => (World.ownsRow.lt r1 b (by rw [blk_own]; exact hb)).2⟩
  exact wl_v (fun a ha o ho _ => by simp [execOp, ho, ha.ev hx, ha.ev hy, hrun]) (hk _ w' ho hbl) ht hg hd (.inr (grown_of_below hbl _))
end
end Go.Proofs.YtahkeoegbjopfaaGreat
/-
  A byte of a row of the call's own is written; two bytes combined. No function of the program is named here.
-/
namespace Go.Proofs.YtahkeoegbjopfaaGreat
set_option maxRecDepth 100000
open Go.RowKit
theorem b8_vK (l : List UInt8) : B8 l = vK .u8 (l.map UInt8.toNat) := by
  unfold B8 vK; rw [List.map_map]; rfl
theorem OwnH.to_K {w : World} {lo hi c : Nat} {A : Option Addr} {l : List UInt8} (h : OwnH w lo hi A c l) : OwnK .u8 5 w lo hi A c (l.map UInt8.toNat) := by
  have h' : RowH w lo hi 5 1 A l.length c (B8 l) := h
  rw [b8_vK] at h'
  show RowH w lo hi 5 1 A (l.map UInt8.toNat).length c _
  rw [List.length_map]
  exact h'
theorem OwnK.to_H {w : World} {lo hi c : Nat} {A : Option Addr} {l : List UInt8} (h : OwnK .u8 5 w lo hi A c (l.map UInt8.toNat)) : OwnH w lo hi A c l := by
  have h' : RowH w lo hi 5 1 A (l.map UInt8.toNat).length c (vK .u8 (l.map UInt8.toNat)) := h
  rw [List.length_map, ← b8_vK] at h'
  exact h'
theorem OwnH.some_ {w : World} {lo hi c : Nat} {A : Option Addr} {l : List UInt8} (h : OwnH w lo hi A c l) (hl : 0 < l.length) : A = some (A.getD ⟨0, 0, none⟩) := h.to_Rd.some_ (by decide) (by simpa using hl)
theorem xor_u8 (a b : UInt8) : bits .xor .u8 (a.toNat : Int) (b.toNat : Int) = ((a ^^^ b).toNat : Int) := by
  have ha := a.toNat_lt
  have hb := b.toNat_lt
  have hx : a.toNat ^^^ b.toNat < 2 ^ 8 := Nat.xor_lt_two_pow (by omega) (by omega)
  have h1 : (BitVec.ofInt 8 (a.toNat : Int)).toNat = a.toNat := by
    rw [BitVec.ofInt_natCast, BitVec.toNat_ofNat]; exact Nat.mod_eq_of_lt (by omega)
  have h2 : (BitVec.ofInt 8 (b.toNat : Int)).toNat = b.toNat := by
    rw [BitVec.ofInt_natCast, BitVec.toNat_ofNat]; exact Nat.mod_eq_of_lt (by omega)
  show IntKind.u8.wrap ((BitVec.ofInt 8 (a.toNat : Int) ^^^ BitVec.ofInt 8 (b.toNat : Int)).toNat : Int) = _
  rw [BitVec.toNat_xor, h1, h2, UInt8.toNat_xor, u8_in (by omega) (by omega)]
section
variable {P : Program} {fn : Func} {F : Ending → World → Prop} {N : Nat} {ks : List K} {ops : Array Oper} {tg : Tags} {l : List Oper} {fr : Fr} {w : World} {ty t t' : TypeId} {pos : String} {aft : Array Edge} {gd : Option (Nat × Bool)} {c j lo hi : Nat} {x y : Operand} {A : Option Addr} {bs : List UInt8} {u v : UInt8}
--@ rule! binOp p o_xor8
theorem o_xor8 (hx : fr.ev x = some (.int .u8 (u.toNat : Int))) (hy : fr.ev y = some (.int .u8 (v.toNat : Int))) : OpV P N fr w (.binOp .xor t x y t') ty (.int .u8 ((u ^^^ v).toNat : Int)) w := o_asi (o_xor hx hy) (xor_u8 u v)
--@ rule store l wl_stO
theorem wl_stO (hs : ∀ w, (sizeOf t).run P w = .ok 1 w) (hx : fr.ev x = some (.pointer (some (adr A j)))) (hown : OwnH w lo hi A c bs) (hy : fr.ev y = some (.int .u8 (u.toNat : Int))) (hj : j < bs.length)
    (hk : ∀ w', OwnH w' lo hi A c (bs.set j u) → Grew w w' 5 (blk A) → Below lo w w' → w'.heap.size = w.heap.size → WL P fn F N ks ops tg.tail l fr w') (ht : tg.loud = true := by rfl) (hg : onG ops fr gd = true := by rfl) (hq : tg.calm = false ∨ blk A = tg.row := by exact .inl rfl) :
    WL P fn F N ks ops tg (⟨none, .store t x y, ty, pos, aft, gd⟩ :: l) fr w :=
  wl_stK (a := u.toNat) hs hx hown.to_K hy (by rw [List.length_map]; exact hj) (fun w' h1 h2 h3 h4 => hk w' (by
    rw [show (bs.map UInt8.toNat).set j u.toNat = (bs.set j u).map UInt8.toNat from List.map_set.symm] at h1
    exact h1.to_H) h2 h3 h4) ht hg hq
--@ rule load r o_loadCut
theorem o_loadCut {N g i n : Nat} {fr : Fr} {w : World} {ty t t' : TypeId} {x : Operand} {cs vs : List Value} (ha' : ∀ w, (isAgg t).run P w = .ok true w) (hs : ∀ w, (sizeOf t).run P w = .ok n w) (hx : fr.ev x = some (.pointer (some ⟨g, i, none⟩))) (hB : Blk w g t' cs) (hv : (cs.drop i).take n = vs) (hn : vs.length = n) : OpV P N fr w (.load t x) ty (.agg vs.toArray) w := by
  subst hn
  refine o_loadn ha' hs hx (fun j u hj => ?_)
  rw [add_plain, hB.cell]
  rw [← hv] at hj
  have hj2 : j < vs.length := by
    rcases Nat.lt_or_ge j vs.length with h | h
    · exact h
    · rw [List.getElem?_eq_none (by rw [List.length_take]; omega)] at hj; cases hj
  rw [List.getElem?_take_of_lt hj2, List.getElem?_drop] at hj
  exact hj
end
end Go.Proofs.YtahkeoegbjopfaaGreat
/-
  Rows of keys (arrays of 32 bytes) and of items, as they lie in memory.
-/
namespace Go.Proofs.YtahkeoegbjopfaaGreat
set_option maxRecDepth 100000
open Go.RowKit
abbrev Ky := { l : List UInt8 // l.length = 32 }
def z32 : Ky := ⟨List.replicate 32 0, rfl⟩
theorem Ky.len (k : Ky) : k.1.length = 32 := k.2
theorem gArr_tys (n : Nat) : (gArr n).tys = [] := rfl
/-- A slice of keys. -/
def RKs (w : World) (A : Option Addr) (L : List Ky) : Prop := RSl (gArr 32) w A L
def RKT (w : World) (A : Option Addr) (L : List Ky) : Prop := RSlT (gArr 32) 42 w A L
def OwnKs (w : World) (lo hi : Nat) (A : Option Addr) (c : Nat) (L : List Ky) : Prop := OwnS (gArr 32) 42 w lo hi A c L
/-- A slice of items. -/
def RIT (w : World) (A : Option Addr) (L : List (By × By)) : Prop := RSlT gItem 94 w A L
def OwnI (w : World) (lo hi : Nat) (A : Option Addr) (c : Nat) (L : List (By × By)) : Prop := OwnS gItem 94 w lo hi A c L
section
variable {w w' : World} {lo hi lo' hi' cp b : Nat} {A : Option Addr} {S : List Ky} {L : List (By × By)} {e' : TypeId} {row : Option Nat}
theorem RKs.u (h : RKs w A S) (hb : Below w.heap.size w w') : RKs w' A S := RSl.u h hb
theorem RKs.d (h : RKs w A S) : RKs w.drew A S := RSl.u h (below_drew w)
theorem RKs.nil_ : RKs w none [] := RSl.nil _ _ _
theorem RKs.some_ (h : RKs w A S) (hl : 0 < S.length) : A = some (A.getD ⟨0, 0, none⟩) := RSl.some_ h (show 0 < 32 by decide) hl
theorem RKs.cells (h : RKs w A S) {j : Nat} (hj : j < S.length) : CellsAt w A (j * 32) (B8 S[j].1) := by
  obtain ⟨cs, h1, h2⟩ := RSl.elem h (show 0 < 32 by decide) hj
  obtain ⟨rfl⟩ : cs = B8 S[j].1 := h2
  exact h1
theorem RKT.u (h : RKT w A S) (hb : Below w.heap.size w w') : RKT w' A S := RSlT.u h hb
theorem RKT.d (h : RKT w A S) : RKT w.drew A S := RSlT.d h
theorem RKT.y (h : RKT w A S) (hg : Grew w w' e' row) (hne : e' ∉ [42]) : RKT w' A S := RSlT.y h hg hne
theorem RKT.nil_ : RKT w none [] := RSlT.nil_
theorem RKT.to_RKs (h : RKT w A S) : RKs w A S := RSlT.to_RSl h
theorem OwnKs.u (h : OwnKs w lo hi A cp S) (hb : Below w.heap.size w w') : OwnKs w' lo hi A cp S := OwnS.u h hb
theorem OwnKs.d (h : OwnKs w lo hi A cp S) : OwnKs w.drew lo hi A cp S := OwnS.d h
theorem OwnKs.y (h : OwnKs w lo hi A cp S) (hg : Grew w w' e' row) (hne : e' ∉ [42]) : OwnKs w' lo hi A cp S := OwnS.y h hg hne
theorem OwnKs.q (h : OwnKs w lo hi A cp S) (hg : Grew w w' e' row) (ha : Ap row lo hi) (hne : e' ∉ []) : OwnKs w' lo hi A cp S := OwnS.q h hg ha hne
theorem OwnKs.ap (h : OwnKs w lo hi A cp S) (hd : hi ≤ lo' ∨ hi' ≤ lo) : Ap (blk A) lo' hi' := OwnS.ap h hd
theorem OwnKs.cap (h : OwnKs w lo hi A cp S) : S.length ≤ cp := OwnS.cap h
theorem OwnKs.nil_ : OwnKs w lo hi none 0 [] := OwnS.nil_
theorem OwnKs.base (h : OwnKs w lo hi A cp S) (h1 : lo' ≤ lo) (h2 : hi ≤ hi') : OwnKs w lo' hi' A cp S := OwnS.base h h1 h2
theorem OwnKs.c (h : OwnKs w lo hi A cp S) (hc : Chg lo' hi' w w') (ha : hi ≤ lo' ∨ hi' ≤ lo) : OwnKs w' lo hi A cp S := OwnS.c0 h (fun h => h) hc ha
theorem OwnKs.to_RKT (h : OwnKs w lo hi A cp S) : RKT w A S := OwnS.to_RSlT h
theorem OwnKs.to_RKs (h : OwnKs w lo hi A cp S) : RKs w A S := OwnS.to_RSl h
theorem OwnKs.some_ (h : OwnKs w lo hi A cp S) (hl : 0 < S.length) : A = some (A.getD ⟨0, 0, none⟩) := RSl.some_ (OwnS.to_RSl h) (show 0 < 32 by decide) hl
theorem RIT.u (h : RIT w A L) (hb : Below w.heap.size w w') : RIT w' A L := RSlT.u h hb
theorem RIT.d (h : RIT w A L) : RIT w.drew A L := RSlT.d h
theorem RIT.y (h : RIT w A L) (hg : Grew w w' e' row) (hne : e' ∉ 94 :: gItem.tys) : RIT w' A L := RSlT.y h hg hne
theorem RIT.nil_ : RIT w none [] := RSlT.nil_
theorem RIT.to_RI (h : RIT w A L) : RI w A L := RSlT.to_RSl h
theorem OwnI.u (h : OwnI w lo hi A cp L) (hb : Below w.heap.size w w') : OwnI w' lo hi A cp L := OwnS.u h hb
theorem OwnI.d (h : OwnI w lo hi A cp L) : OwnI w.drew lo hi A cp L := OwnS.d h
theorem OwnI.y (h : OwnI w lo hi A cp L) (hg : Grew w w' e' row) (hne : e' ∉ 94 :: gItem.tys) : OwnI w' lo hi A cp L := OwnS.y h hg hne
theorem OwnI.q (h : OwnI w lo hi A cp L) (hg : Grew w w' e' row) (ha : Ap row lo hi) (hne : e' ∉ gItem.tys) : OwnI w' lo hi A cp L := OwnS.q h hg ha hne
theorem OwnI.ap (h : OwnI w lo hi A cp L) (hd : hi ≤ lo' ∨ hi' ≤ lo) : Ap (blk A) lo' hi' := OwnS.ap h hd
theorem OwnI.cap (h : OwnI w lo hi A cp L) : L.length ≤ cp := OwnS.cap h
theorem OwnI.nil_ : OwnI w lo hi none 0 [] := OwnS.nil_
theorem OwnI.base (h : OwnI w lo hi A cp L) (h1 : lo' ≤ lo) (h2 : hi ≤ hi') : OwnI w lo' hi' A cp L := OwnS.base h h1 h2
theorem OwnI.to_RIT (h : OwnI w lo hi A cp L) : RIT w A L := OwnS.to_RSlT h
theorem OwnI.to_RI (h : OwnI w lo hi A cp L) : RI w A L := OwnS.to_RSl h
end
theorem gKey_one (w : World) (cs : List Value) (s : Ky) (h : (gArr 32).T w cs s) : ∀ u ∈ cs, u.oneCell' = true := by
  obtain ⟨rfl⟩ : cs = B8 s.1 := h
  exact B8_oneCell _
theorem gItem_one (w : World) (cs : List Value) (r : By × By) (h : gItem.T w cs r) : ∀ u ∈ cs, u.oneCell' = true := by
  obtain ⟨_, _, rfl, ⟨A, c, rfl, _⟩, B, d, rfl, _⟩ := h
  intro u hu
  simp only [List.cons_append, List.nil_append, List.mem_cons, List.not_mem_nil, or_false] at hu
  rcases hu with rfl | rfl <;> rfl
theorem gItem_tys : gItem.tys = [5, 5] := rfl
theorem Tryz.rowKs : RowT Tryz.prog 29 42 (.agg (B8 z32.1).toArray) 32 32 := ⟨Tryz.underlying29, by kernel_rfl, rfl, by omega⟩
theorem Tryz.rowItem : RowT Tryz.prog 28 94 (.agg #[.slice none 0 0, .slice none 0 0]) 2 48 := ⟨Tryz.underlying28, by kernel_rfl, rfl, by omega⟩
theorem Tryz.eqg_Key : Tryz.prog.eqGuardType Tryz.prog.depth 42 = false := by kernel_rfl
section
variable {fn : Func} {F : Ending → World → Prop} {N : Nat} {ks : List K} {ops : Array Oper} {tg : Tags} {l : List Oper} {fr : Fr} {w w0 : World} {ty t' : TypeId} {pos : String} {aft : Array Edge} {gd : Option (Nat × Bool)} {k1 k2 : IntKind} {d n j q c lo hi : Nat} {x y : Operand} {A B : Option Addr} {S M : List Ky} {s u v : Ky} {L I : List (By × By)}
--@ rule! binOp p o_eqKy
theorem o_eqKy (hx : fr.ev x = some (.agg (B8 u.1).toArray)) (hy : fr.ev y = some (.agg (B8 v.1).toArray)) : OpV Tryz.prog N fr w (.binOp .eql 42 x y t') ty (.bool (decide (u = v))) w := by
  have h := o_aeq (P := Tryz.prog) (N := N) (fr := fr) (w := w) (ty := ty) (t' := t') Tryz.underlying42 Tryz.underlying5 Tryz.sizeOf5 Tryz.eqg_Key hx hy u.2 v.2
  rwa [show decide (u.1 = v.1) = decide (u = v) from decide_eq_decide.2 Subtype.ext_iff.symm] at h
--@ rule! binOp p o_neKy
theorem o_neKy (hx : fr.ev x = some (.agg (B8 u.1).toArray)) (hy : fr.ev y = some (.agg (B8 v.1).toArray)) : OpV Tryz.prog N fr w (.binOp .neq 42 x y t') ty (.bool (decide (u ≠ v))) w := by
  have h := o_ane (P := Tryz.prog) (N := N) (fr := fr) (w := w) (ty := ty) (t' := t') Tryz.underlying42 Tryz.underlying5 Tryz.sizeOf5 Tryz.eqg_Key hx hy u.2 v.2
  rwa [show decide (u.1 ≠ v.1) = decide (u ≠ v) from decide_eq_decide.2 (not_congr Subtype.ext_iff.symm)] at h
--@ rule load r o_ldKs
theorem o_ldKs (hx : fr.ev x = some (.pointer (some (adr A (j * 32))))) (hr : RKs w0 A S) (hb : Below w0.heap.size w0 w) (hj : j < S.length) : OpV Tryz.prog N fr w (.load 42 x) ty (.agg (B8 S[j].1).toArray) w :=
  o_loadn (cs := B8 S[j].1) Tryz.isAgg42 (by rw [B8_length, S[j].2]; exact Tryz.sizeOf42) hx (fun i u hu => by rw [adr_add]; exact (hr.u hb).cells hj i u hu)
--@ rule buildSlice l wl_litKs0
theorem wl_litKs0 {ps : Array (Nat × Operand)} {xs : List Operand} (hxs : ps.toList.map Prod.snd = xs) (hx : fr.evs xs = some []) (hps : ps = ((List.range' 0 0).zip xs).toArray)
    (hk : ∀ A w', OwnKs w' w.heap.size w'.heap.size A 0 [] → Below w.heap.size w w' → WL Tryz.prog fn F N ks ops tg.tail l ((d, .slice A 0 0) :: fr) w')
    (ht : tg.loud = true := by rfl) (hg : onG ops fr gd = true := by rfl) (hd : Nat.blt d N = true := by rfl) : WL Tryz.prog fn F N ks ops tg (⟨some d, .buildSlice 29 0 ps, ty, pos, aft, gd⟩ :: l) fr w :=
  wl_litS (X := gArr 32) (L := []) Tryz.rowKs Tryz.sizeOf42 Tryz.zeroValue42 hxs hps hx rfl rfl (fun i h => absurd h (Nat.not_lt_zero _)) rfl hk ht hg hd
--@ rule buildSlice l wl_litKs1
theorem wl_litKs1 {ps : Array (Nat × Operand)} {xs : List Operand} (hxs : ps.toList.map Prod.snd = xs) (hx : fr.evs xs = some [.agg (B8 s.1).toArray]) (hps : ps = ((List.range' 0 1).zip xs).toArray)
    (hk : ∀ A w', OwnKs w' w.heap.size w'.heap.size A 1 [s] → Below w.heap.size w w' → WL Tryz.prog fn F N ks ops tg.tail l ((d, .slice A 1 1) :: fr) w')
    (ht : tg.loud = true := by rfl) (hg : onG ops fr gd = true := by rfl) (hd : Nat.blt d N = true := by rfl) : WL Tryz.prog fn F N ks ops tg (⟨some d, .buildSlice 29 1 ps, ty, pos, aft, gd⟩ :: l) fr w := by
  refine wl_litS (X := gArr 32) (L := [s]) Tryz.rowKs Tryz.sizeOf42 Tryz.zeroValue42 hxs hps hx rfl rfl (fun i h => ?_) rfl hk ht hg hd
  obtain rfl : i = 0 := by simp at h; omega
  exact ⟨_, rfl, by show (B8 s.1).toArray.size = 32; rw [List.size_toArray, B8_length, s.2], rfl⟩
--@ rule append l wl_appKs
theorem wl_appKs (hx : fr.ev x = some (.slice A n c)) (hown : OwnKs w lo hi A c S) (hn : n = S.length) (hy : fr.ev y = some (.slice B j q)) (hr : RKT w B M) (hj : j = M.length) (hlen : S.length + M.length ≤ 1000000) (hB : lo ≤ w.heap.size)
    (h : ∀ A' c' w', OwnKs w' lo w'.heap.size A' c' (S ++ M) → Grew w w' 42 (blk A) → Below lo w w' → WL Tryz.prog fn F N ks ops tg.tail l ((d, .slice A' (S ++ M).length c') :: fr) w')
    (ht : tg.loud = true := by rfl) (hg : onG ops fr gd = true := by rfl) (hd : Nat.blt d N = true := by rfl) (hq : tg.calm = false ∨ blk A = none ∨ blk A = tg.row := by exact .inl rfl) :
    WL Tryz.prog fn F N ks ops tg (⟨some d, .call { callee := .builtin .append, args := #[x, y], argTypes := #[29, 29] }, ty, pos, aft, gd⟩ :: l) fr w :=
  wl_appS (X := gArr 32) Tryz.rowKs hx hown hn hy hr hj (by simp [gArr_tys]) gKey_one (by have := Nat.mul_le_mul_right 32 hlen; omega) (by omega) hB (fun A' c' w' h1 h2 h3 _ => h A' c' w' h1 h2 h3) ht hg hd hq
--@ rule buildSlice l wl_litItm
theorem wl_litItm {ps : Array (Nat × Operand)} {xs : List Operand} {A1 A2 : Option Addr} {n1 c1 n2 c2 : Nat} {p1 p2 : By} (hxs : ps.toList.map Prod.snd = xs) (hx : fr.evs xs = some [.agg #[.slice A1 n1 c1, .slice A2 n2 c2]]) (h1 : RdT w A1 p1) (h2 : RdT w A2 p2) (hn1 : n1 = p1.length) (hn2 : n2 = p2.length) (hc1 : p1.length ≤ c1) (hc2 : p2.length ≤ c2) (hm1 : c1 ≤ maxLen) (hm2 : c2 ≤ maxLen) (hps : ps = ((List.range' 0 1).zip xs).toArray)
    (hk : ∀ A w', OwnI w' w.heap.size w'.heap.size A 1 [(p1, p2)] → Below w.heap.size w w' → WL Tryz.prog fn F N ks ops tg.tail l ((d, .slice A 1 1) :: fr) w')
    (ht : tg.loud = true := by rfl) (hg : onG ops fr gd = true := by rfl) (hd : Nat.blt d N = true := by rfl) : WL Tryz.prog fn F N ks ops tg (⟨some d, .buildSlice 28 1 ps, ty, pos, aft, gd⟩ :: l) fr w := by
  subst hn1; subst hn2
  refine wl_litS (X := gItem) (L := [(p1, p2)]) Tryz.rowItem Tryz.sizeOf94 Tryz.zeroValue94 hxs hps hx rfl rfl (fun i h => ?_) rfl hk ht hg hd
  obtain rfl : i = 0 := by simp at h; omega
  exact ⟨_, rfl, rfl, [.slice A1 p1.length c1], [.slice A2 p2.length c2], rfl, ⟨A1, c1, rfl, h1, hc1, hm1⟩, ⟨A2, c2, rfl, h2, hc2, hm2⟩⟩
--@ rule append l wl_appItm
theorem wl_appItm (hx : fr.ev x = some (.slice A n c)) (hown : OwnI w lo hi A c L) (hn : n = L.length) (hy : fr.ev y = some (.slice B j q)) (hr : RIT w B I) (hj : j = I.length) (hlen : L.length + I.length ≤ 1000000) (hB : lo ≤ w.heap.size)
    (h : ∀ A' c' w', OwnI w' lo w'.heap.size A' c' (L ++ I) → Grew w w' 94 (blk A) → Below lo w w' → WL Tryz.prog fn F N ks ops tg.tail l ((d, .slice A' (L ++ I).length c') :: fr) w')
    (ht : tg.loud = true := by rfl) (hg : onG ops fr gd = true := by rfl) (hd : Nat.blt d N = true := by rfl) (hq : tg.calm = false ∨ blk A = none ∨ blk A = tg.row := by exact .inl rfl) :
    WL Tryz.prog fn F N ks ops tg (⟨some d, .call { callee := .builtin .append, args := #[x, y], argTypes := #[28, 28] }, ty, pos, aft, gd⟩ :: l) fr w :=
  wl_appS (X := gItem) Tryz.rowItem hx hown hn hy hr hj (by simp [gItem_tys]) gItem_one (by have := Nat.mul_le_mul_right 48 hlen; omega) (by omega) hB (fun A' c' w' h1 h2 h3 _ => h A' c' w' h1 h2 h3) ht hg hd hq
end
end Go.Proofs.YtahkeoegbjopfaaGreat
/-
  Bytes compared: bytes.Compare (the runtime's comparison).
-/
namespace Go.Proofs.YtahkeoegbjopfaaGreat
set_option maxRecDepth 100000
open Go.RowKit
theorem cmpL_bytes : ∀ (a b : List UInt8), Lib.compareBytes a b = cmpL a b
  | [], [] => rfl
  | [], _ :: _ => rfl
  | _ :: _, [] => rfl
  | x :: a, y :: b => by
    simp only [Lib.compareBytes, cmpL, cmpL_bytes a b]
    by_cases h : x = y
    · subst h
      rw [if_neg (by simp), if_neg (by simp), if_pos rfl]
    · rw [if_neg h]
      have h1 : x.toNat ≠ y.toNat := fun e => h (UInt8.toNat_inj.1 e)
      by_cases h2 : x.toNat < y.toNat
      · rw [if_pos (show x < y from h2), if_pos h2]
      · rw [if_neg (show ¬ x < y from h2), if_neg h2, if_pos (show y < x from (show y.toNat < x.toNat by omega))]
theorem run_loadBytes {P : Program} (w : World) (b : Nat) : ∀ (l : List UInt8) (o : Nat) (acc : ByteArray), (∀ j (h : j < l.length), w.cell? ⟨b, o + j, none⟩ = some (.int .u8 (l[j].toNat : Int))) →
    (Extern.Bytes.loadBytes ⟨b, o, none⟩ l.length acc).run P w = .ok ⟨acc.data ++ l.toArray⟩ w
  | [], o, acc, _ => by
    show Result.ok acc w = _
    simp
  | x :: l, o, acc, h => by
    have h0 := h 0 (by simp)
    have ih := run_loadBytes (P := P) w b l (o + 1) (acc.push x) (fun j hj => by
      have := h (j + 1) (by simpa using hj)
      rw [show o + 1 + j = o + (j + 1) by omega]
      simpa using this)
    simp only [Nat.add_zero, List.getElem_cons_zero] at h0
    simp only [List.length_cons, Extern.Bytes.loadBytes, Sem.run_bind, run_load, h0, Result.andThen]
    have e : (x.toNat : Int).toNat.toUInt8 = x := by simp
    rw [e]
    rw [show (⟨b, o, none⟩ : Addr).add 1 = ⟨b, o + 1, none⟩ from rfl, ih]
    congr 1
    simp [ByteArray.push]
theorem run_bytesOf {P : Program} {w : World} {A : Option Addr} {l : List UInt8} {c : Nat} (h : Rd w A l) : (Extern.Bytes.bytesOf (.slice A l.length c)).run P w = .ok ⟨l.toArray⟩ w := by
  by_cases hl : l = []
  · subst hl
    rcases A with _ | ⟨b, o, p⟩
    · rfl
    · rfl
  · obtain ⟨b, o, rfl, _, hc⟩ := h.at_ hl
    have := run_loadBytes (P := P) w b l o .empty hc
    simpa [Extern.Bytes.bytesOf] using this
section
variable {fn : Func} {N : Nat} {fr : Fr} {w w0 : World} {ty : TypeId} {x y z : Operand} {ts : Array TypeId}
--@ rule call r o_bcmp
theorem o_bcmp {A B : Option Addr} {a b : List UInt8} {n m c d : Nat} (hx : fr.ev x = some (.slice A n c)) (hy : fr.ev y = some (.slice B m d)) (ha : Rd w A a) (hb : Rd w B b) (hn : n = a.length) (hm : m = b.length) :
    OpV Tryz.prog N fr w (.call { callee := .value (.func 167), args := #[x, y], argTypes := ts }) ty (.int .i64 (cmpL a b)) w := fun ac hac o ho _ => by
  subst hn; subst hm
  have e1 : (Extern.BytealgCompare.compare #[.slice A a.length c, .slice B b.length d]).run Tryz.prog w = .ok (.int .i64 (cmpL a b)) w := by
    change Sem.run Tryz.prog (do pure (goInt (Extern.BytealgCompare.cmp (← Extern.Bytes.bytesOf (.slice A a.length c)) (← Extern.Bytes.bytesOf (.slice B b.length d))))) w = _
    simp only [Sem.run_bind, run_bytesOf ha, run_bytesOf hb, Sem.run_pure, Result.andThen]
    rw [Lib.cmp_eq, cmpL_bytes]
    rfl
  have hrun : (callFunc 167 #[.slice A a.length c, .slice B b.length d]).run Tryz.prog w = .ok (.value (.int .i64 (cmpL a b))) w := by
    rw [run_callFunc_extern Tryz.func167 (by kernel_rfl) (by kernel_rfl) (by kernel_rfl) (e := Extern.BytealgCompare.compare) (by kernel_rfl), e1]
    rfl
  have hfn : ac.eval (.func 167) = .func (.func 167) #[] #[] := rfl
  simp [execOp, ho, resolve, invoke, Deferred.ofValue, hac.ev hx, hac.ev hy, hfn, hrun]
end
theorem C_bCompare {A B : Option Addr} {a b : List UInt8} {n m c d : Nat} (w : World) (ha : Rd w A a) (hb : Rd w B b) (hn : n = a.length) (hm : m = b.length) :
    CallsR Tryz.prog 128 [.slice A n c, .slice B m d] w fun v w' => v = .int .i64 (cmpL a b) ∧ w' = w := by
  subst hn; subst hm
  refine callsR Tryz.func128 rfl rfl (by kernel_rfl) rfl ?_
  refine rk_seq ?_
  refine rk_region ?_
  refine wl_p (fun _ => o_assign rfl) ?_
  refine wl_nil ?_
  refine rk_seq ?_
  refine rk_region ?_
  refine wl_p (fun _ => o_move rfl) ?_
  refine wl_p (fun _ => o_move rfl) ?_
  refine wl_r (o_bcmp rfl rfl ha hb rfl rfl) ?_
  refine wl_p (fun _ => o_assign rfl) ?_
  refine wl_nil ?_
  refine ret1 rfl rfl ?_
  exact ⟨rfl, rfl⟩
end Go.Proofs.YtahkeoegbjopfaaGreat
/-
  Bytes as strings.
-/
namespace Go.Proofs.YtahkeoegbjopfaaGreat
set_option maxRecDepth 100000
open Go.RowKit
section
variable {N : Nat} {fr : Fr} {w w0 : World} {ty : TypeId} {x : Operand}
--@ rule convert r o_strS
theorem o_strS {A : Option Addr} {n c : Nat} {l : List UInt8} (hx : fr.ev x = some (.slice A n c)) (hr : Rd w0 A l) (hb : Below w0.heap.size w0 w) (hn : n = l.length) :
    OpV Tryz.prog N fr w (.convert 39 9 x) ty (.string ⟨l.toArray⟩) w := o_strU Tryz.underlying39 Tryz.underlying5 Tryz.underlying9 hx hr hb hn
end
end Go.Proofs.YtahkeoegbjopfaaGreat
/-
  A copy of bytes: bytes.Clone.
-/
namespace Go.Proofs.YtahkeoegbjopfaaGreat
set_option maxRecDepth 100000
open Go.RowKit
section
variable {P : Program} {N : Nat} {fr : Fr} {w : World} {ty t t' : TypeId} {x y : Operand}
theorem run_equal_slice_nil {e : TypeId} (hu : P.underlying t = some (.slice e)) (A : Option Addr) (n c : Nat) : (Op.equal t (.slice A n c) (.slice none 0 0)).run P w = .ok A.isNone w := by
  have h : ∀ d : Nat, (Op.equalIn (d + 1) t (.slice A n c) (.slice none 0 0)).run P w = .ok A.isNone w := fun d => by
    cases A <;> simp [Op.equalIn, run_underlying hu]
  exact h 9999
--@ rule binOp p o_sleqN
theorem o_sleqN {e : TypeId} {A : Option Addr} {n c : Nat} (hu : P.underlying t = some (.slice e)) (hx : fr.ev x = some (.slice A n c)) (hy : fr.ev y = some (.slice none 0 0)) : OpV P N fr w (.binOp .eql t x y t') ty (.bool A.isNone) w :=
  o_bin hx hy (fun _ _ => by simp [go_sem]) (by simp only [binOp]; simp [run_equal_slice_nil hu])
end
set_option maxRecDepth 100000 in
theorem C_bClone {A : Option Addr} {p : List UInt8} {n c : Nat} (w : World) (hp : Rd w A p) (hn : n = p.length) (hl : p.length ≤ 4000000000) :
    CallsR Tryz.prog 64 [.slice A n c] w fun v w' => ∃ A' c', v = .slice A' p.length c' ∧ OwnH w' w.heap.size w'.heap.size A' c' p ∧ Below w.heap.size w w' := by
  subst hn
  rcases A with _ | ad
  · obtain rfl : p = [] := by
      rcases p with _ | ⟨a, p⟩
      · rfl
      · obtain ⟨_, _, e, _⟩ := hp.2 (by simp [B8]); cases e
    refine callsR Tryz.func64 rfl rfl (by kernel_rfl) rfl ?_
    have hw := Below.refl w.heap.size w
    refine rk_seq ?_
    refine rk_region ?_
    refine wl_p (fun _ => o_assign rfl) ?_
    refine wl_nil ?_
    refine rk_seq ?_
    refine rk_seq ?_
    refine rk_region ?_
    refine wl_p (fun _ => o_move rfl) ?_
    refine wl_p (fun _ => (o_sleqN Tryz.underlying39 rfl rfl)) ?_
    refine wl_nil ?_
    refine rk_true rfl ?_
    refine rk_seq ?_
    refine rk_region ?_
    refine wl_p (fun _ => o_assign rfl) ?_
    refine wl_nil ?_
    refine ret1 rfl rfl ?_
    exact ⟨none, 0, rfl, OwnH.nil_, hw⟩
  · refine callsR Tryz.func64 rfl rfl (by kernel_rfl) rfl ?_
    have hw := Below.refl w.heap.size w
    refine rk_seq ?_
    refine rk_region ?_
    refine wl_p (fun _ => o_assign rfl) ?_
    refine wl_nil ?_
    refine rk_seq ?_
    refine rk_seq ?_
    refine rk_region ?_
    refine wl_p (fun _ => o_move rfl) ?_
    refine wl_p (fun _ => (o_sleqN Tryz.underlying39 rfl rfl)) ?_
    refine wl_nil ?_
    refine rk_false rfl ?_
    refine rk_skip ?_
    refine rk_seq ?_
    refine rk_region ?_
    refine wl_litB [] Tryz.u8 Tryz.sizeOf5 Tryz.zeroValue5 (by rfl) rfl rfl (by rfl) (by rfl) (by rfl) ?_
    rintro A5 w5 f5 b5
    have qf5 := f5.cap
    have s5 := b5.size
    replace hw := hw.trans (b5.mono hw.size)
    refine wl_p (fun _ => o_move rfl) ?_
    refine wl_appB Tryz.u8 rfl f5 (by rfl) rfl (hp.u hw) rfl (by omega) hw.size ?_
    rintro A7 c7 w7 f7 g7 b7 i7
    have qf7 := f7.cap
    have s7 := g7.size
    replace hw := hw.trans (b7.mono (by omega))
    clear f5
    refine wl_p (fun _ => o_assign rfl) ?_
    refine wl_nil ?_
    rw [List.nil_append] at f7 ⊢
    refine ret1 rfl rfl ?_
    exact ⟨_, _, rfl, f7, hw⟩
end Go.Proofs.YtahkeoegbjopfaaGreat
/-
  Walks of package ops: what an op is, whether it is valid.
-/
namespace Go.Proofs.YtahkeoegbjopfaaGreat
set_option maxRecDepth 100000
open Go.RowKit
--@ side (opC_length ..)
/-- The cells of an op. -/
def opC (k : Int) (K : Option Addr) (n c : Nat) (V : Option Addr) (m d : Nat) (u : Ky) : List Value := [.int .i64 k, .slice K n c, .slice V m d] ++ B8 u.1
theorem opC_length (k : Int) (K : Option Addr) (n c : Nat) (V : Option Addr) (m d : Nat) (u : Ky) : (opC k K n c V m d u).length = 35 := by simp [opC, B8_length, u.2]
theorem opC_cut (k : Int) (K : Option Addr) (n c : Nat) (V : Option Addr) (m d : Nat) (u : Ky) : ((opC k K n c V m d u).drop (0 + 3)).take 32 = B8 u.1 := by
  show (B8 u.1).take 32 = B8 u.1
  rw [List.take_of_length_le (by rw [B8_length, u.2]; omega)]
section
variable {N : Nat} {fr : Fr} {w : World} {ty t' : TypeId} {x : Operand} {g : Nat}
--@ rule load r o_ldWho
theorem o_ldWho {k : Int} {K V : Option Addr} {n c m d : Nat} {u : Ky} (hx : fr.ev x = some (.pointer (some ⟨g, 0 + 3, none⟩))) (hB : Blk w g t' (opC k K n c V m d u)) : OpV Tryz.prog N fr w (.load 42 x) ty (.agg (B8 u.1).toArray) w :=
  o_loadCut Tryz.isAgg42 Tryz.sizeOf42 hx hB (opC_cut ..) (by rw [B8_length, u.2])
--@ rule! build p o_zKey
theorem o_zKey : OpV Tryz.prog N fr w (.build 42 #[]) ty (.agg (B8 z32.1).toArray) w :=
  o_build (is := []) (xs := []) rfl (fun _ => by kernel_rfl)
end
/-- Whether an op's parts are as its kind wants them. -/
def goodS (k : Int) (n m : Nat) (u : Ky) : Bool :=
  if k = 1 then decide (1 ≤ n ∧ n ≤ 16) && decide (m ≤ 32) && decide (u = z32)
  else if k = 2 then decide (1 ≤ n ∧ n ≤ 16) && decide (m = 0) && decide (u = z32)
  else decide (n = 0) && decide (m = 0)
theorem C_goodPut {K V : Option Addr} {n c m d : Nat} {k : Int} {u : Ky} (w : World) (hn : n ≤ 4000000000) (hm : m ≤ 4000000000) :
    CallsR Tryz.prog 69 [.agg (opC k K n c V m d u).toArray] w fun v w' => v = .bool (goodS 1 n m u) ∧ Below w.heap.size w w' := by
  refine callsR Tryz.func69 rfl rfl (by kernel_rfl) rfl ?_
  have hw := Below.refl w.heap.size w
  by_cases h1 : 1 ≤ n ∧ n ≤ 16
  · by_cases h2 : m ≤ 32
    · refine rk_seq ?_
      refine rk_region ?_
      refine wl_boxg _ rfl (by rfl) ?_
      rintro g1 w1 f1 b1 i1 i1_1
      have s1 := b1.size
      replace hw := hw.trans (b1.mono hw.size)
      refine wl_p (fun _ => o_assign rfl) ?_
      refine wl_nil ?_
      refine rk_seq ?_
      refine rk_region ?_
      refine wl_p (fun _ => o_faddr (s := 54) (i := 1) (off := 1) Tryz.underlying54 rfl Tryz.sizeOf39 rfl rfl rfl) ?_
      refine wl_r (o_loadbg Tryz.isAgg39 rfl f1 (by rfl)) ?_
      refine wl_call rfl (C_leafKey _ (by omega)) ?_
      rintro v5 w5 ⟨rfl, rfl⟩
      refine wl_p (fun _ => o_move rfl) ?_
      refine wl_know 6 true rfl (decide_eq_true (by omega)) ?_
      refine wl_p (fun _ => o_faddr (s := 54) (i := 2) (off := 2) Tryz.underlying54 rfl Tryz.sizeOf39 rfl rfl rfl) ?_
      refine wl_r (o_loadbg Tryz.isAgg39 rfl f1 (by rfl)) ?_
      refine wl_call rfl (C_leafValue _ (by omega)) ?_
      rintro v9 w9 ⟨rfl, rfl⟩
      refine wl_p (fun _ => o_pick_t rfl rfl) ?_
      refine wl_p (fun _ => o_move rfl) ?_
      refine wl_know 11 true rfl (decide_eq_true (by omega)) ?_
      refine wl_p (fun _ => o_faddr (s := 54) (i := 3) (off := 3) Tryz.underlying54 rfl Tryz.sizeOf42 rfl rfl rfl) ?_
      refine wl_r (o_ldWho rfl f1) ?_
      refine wl_p (fun _ => (o_zKey)) ?_
      refine wl_p (fun _ => (o_eqKy rfl rfl)) ?_
      refine wl_p (fun _ => o_pick_t rfl rfl) ?_
      refine wl_p (fun _ => o_assign rfl) ?_
      refine wl_nil ?_
      refine ret1 rfl rfl ?_
      exact ⟨by simp [goodS, h1, h2], hw⟩
    · refine rk_seq ?_
      refine rk_region ?_
      refine wl_boxg _ rfl (by rfl) ?_
      rintro g1 w1 f1 b1 i1 i1_1
      have s1 := b1.size
      replace hw := hw.trans (b1.mono hw.size)
      refine wl_p (fun _ => o_assign rfl) ?_
      refine wl_nil ?_
      refine rk_seq ?_
      refine rk_region ?_
      refine wl_p (fun _ => o_faddr (s := 54) (i := 1) (off := 1) Tryz.underlying54 rfl Tryz.sizeOf39 rfl rfl rfl) ?_
      refine wl_r (o_loadbg Tryz.isAgg39 rfl f1 (by rfl)) ?_
      refine wl_call rfl (C_leafKey _ (by omega)) ?_
      rintro v5 w5 ⟨rfl, rfl⟩
      refine wl_p (fun _ => o_move rfl) ?_
      refine wl_know 6 true rfl (decide_eq_true (by omega)) ?_
      refine wl_p (fun _ => o_faddr (s := 54) (i := 2) (off := 2) Tryz.underlying54 rfl Tryz.sizeOf39 rfl rfl rfl) ?_
      refine wl_r (o_loadbg Tryz.isAgg39 rfl f1 (by rfl)) ?_
      refine wl_call rfl (C_leafValue _ (by omega)) ?_
      rintro v9 w9 ⟨rfl, rfl⟩
      refine wl_p (fun _ => o_pick_t rfl rfl) ?_
      refine wl_p (fun _ => o_move rfl) ?_
      refine wl_know 11 false rfl (decide_eq_false (by omega)) ?_
      refine wl_off ?_
      refine wl_off ?_
      refine wl_off ?_
      refine wl_off ?_
      refine wl_p (fun _ => o_pick_f rfl rfl) ?_
      refine wl_p (fun _ => o_assign rfl) ?_
      refine wl_nil ?_
      refine ret1 rfl rfl ?_
      exact ⟨by simp [goodS, h2], hw⟩
  · refine rk_seq ?_
    refine rk_region ?_
    refine wl_boxg _ rfl (by rfl) ?_
    rintro g1 w1 f1 b1 i1 i1_1
    have s1 := b1.size
    replace hw := hw.trans (b1.mono hw.size)
    refine wl_p (fun _ => o_assign rfl) ?_
    refine wl_nil ?_
    refine rk_seq ?_
    refine rk_region ?_
    refine wl_p (fun _ => o_faddr (s := 54) (i := 1) (off := 1) Tryz.underlying54 rfl Tryz.sizeOf39 rfl rfl rfl) ?_
    refine wl_r (o_loadbg Tryz.isAgg39 rfl f1 (by rfl)) ?_
    refine wl_call rfl (C_leafKey _ (by omega)) ?_
    rintro v5 w5 ⟨rfl, rfl⟩
    refine wl_p (fun _ => o_move rfl) ?_
    refine wl_know 6 false rfl (decide_eq_false (by omega)) ?_
    refine wl_off ?_
    refine wl_off ?_
    refine wl_off ?_
    refine wl_p (fun _ => o_pick_f rfl rfl) ?_
    refine wl_p (fun _ => o_move rfl) ?_
    refine wl_off ?_
    refine wl_off ?_
    refine wl_off ?_
    refine wl_off ?_
    refine wl_p (fun _ => o_pick_f rfl rfl) ?_
    refine wl_p (fun _ => o_assign rfl) ?_
    refine wl_nil ?_
    refine ret1 rfl rfl ?_
    exact ⟨by simp [goodS, h1], hw⟩
theorem C_goodDelete {K V : Option Addr} {n c m d : Nat} {k : Int} {u : Ky} (w : World) (hn : n ≤ 4000000000) (hm : m ≤ 4000000000) :
    CallsR Tryz.prog 73 [.agg (opC k K n c V m d u).toArray] w fun v w' => v = .bool (goodS 2 n m u) ∧ Below w.heap.size w w' := by
  refine callsR Tryz.func73 rfl rfl (by kernel_rfl) rfl ?_
  have hw := Below.refl w.heap.size w
  by_cases h1 : 1 ≤ n ∧ n ≤ 16
  · by_cases h2 : m = 0
    · refine rk_seq ?_
      refine rk_region ?_
      refine wl_boxg _ rfl (by rfl) ?_
      rintro g1 w1 f1 b1 i1 i1_1
      have s1 := b1.size
      replace hw := hw.trans (b1.mono hw.size)
      refine wl_p (fun _ => o_assign rfl) ?_
      refine wl_nil ?_
      refine rk_seq ?_
      refine rk_region ?_
      refine wl_p (fun _ => o_faddr (s := 54) (i := 1) (off := 1) Tryz.underlying54 rfl Tryz.sizeOf39 rfl rfl rfl) ?_
      refine wl_r (o_loadbg Tryz.isAgg39 rfl f1 (by rfl)) ?_
      refine wl_call rfl (C_leafKey _ (by omega)) ?_
      rintro v5 w5 ⟨rfl, rfl⟩
      refine wl_p (fun _ => o_move rfl) ?_
      refine wl_know 6 true rfl (decide_eq_true (by omega)) ?_
      refine wl_p (fun _ => o_faddr (s := 54) (i := 2) (off := 2) Tryz.underlying54 rfl Tryz.sizeOf39 rfl rfl rfl) ?_
      refine wl_r (o_loadbg Tryz.isAgg39 rfl f1 (by rfl)) ?_
      refine wl_p (fun _ => o_len (t := 39) Tryz.underlying39 rfl) ?_
      refine wl_p (fun _ => o_eq rfl rfl) ?_
      refine wl_p (fun _ => o_pick_t rfl rfl) ?_
      refine wl_p (fun _ => o_move rfl) ?_
      refine wl_know 12 true rfl (decide_eq_true (by omega)) ?_
      refine wl_p (fun _ => o_faddr (s := 54) (i := 3) (off := 3) Tryz.underlying54 rfl Tryz.sizeOf42 rfl rfl rfl) ?_
      refine wl_r (o_ldWho rfl f1) ?_
      refine wl_p (fun _ => (o_zKey)) ?_
      refine wl_p (fun _ => (o_eqKy rfl rfl)) ?_
      refine wl_p (fun _ => o_pick_t rfl rfl) ?_
      refine wl_p (fun _ => o_assign rfl) ?_
      refine wl_nil ?_
      refine ret1 rfl rfl ?_
      exact ⟨by simp [goodS, h1, h2], hw⟩
    · refine rk_seq ?_
      refine rk_region ?_
      refine wl_boxg _ rfl (by rfl) ?_
      rintro g1 w1 f1 b1 i1 i1_1
      have s1 := b1.size
      replace hw := hw.trans (b1.mono hw.size)
      refine wl_p (fun _ => o_assign rfl) ?_
      refine wl_nil ?_
      refine rk_seq ?_
      refine rk_region ?_
      refine wl_p (fun _ => o_faddr (s := 54) (i := 1) (off := 1) Tryz.underlying54 rfl Tryz.sizeOf39 rfl rfl rfl) ?_
      refine wl_r (o_loadbg Tryz.isAgg39 rfl f1 (by rfl)) ?_
      refine wl_call rfl (C_leafKey _ (by omega)) ?_
      rintro v5 w5 ⟨rfl, rfl⟩
      refine wl_p (fun _ => o_move rfl) ?_
      refine wl_know 6 true rfl (decide_eq_true (by omega)) ?_
      refine wl_p (fun _ => o_faddr (s := 54) (i := 2) (off := 2) Tryz.underlying54 rfl Tryz.sizeOf39 rfl rfl rfl) ?_
      refine wl_r (o_loadbg Tryz.isAgg39 rfl f1 (by rfl)) ?_
      refine wl_p (fun _ => o_len (t := 39) Tryz.underlying39 rfl) ?_
      refine wl_p (fun _ => o_eq rfl rfl) ?_
      refine wl_p (fun _ => o_pick_t rfl rfl) ?_
      refine wl_p (fun _ => o_move rfl) ?_
      refine wl_know 12 false rfl (decide_eq_false (by omega)) ?_
      refine wl_off ?_
      refine wl_off ?_
      refine wl_off ?_
      refine wl_off ?_
      refine wl_p (fun _ => o_pick_f rfl rfl) ?_
      refine wl_p (fun _ => o_assign rfl) ?_
      refine wl_nil ?_
      refine ret1 rfl rfl ?_
      exact ⟨by simp [goodS, h2], hw⟩
  · refine rk_seq ?_
    refine rk_region ?_
    refine wl_boxg _ rfl (by rfl) ?_
    rintro g1 w1 f1 b1 i1 i1_1
    have s1 := b1.size
    replace hw := hw.trans (b1.mono hw.size)
    refine wl_p (fun _ => o_assign rfl) ?_
    refine wl_nil ?_
    refine rk_seq ?_
    refine rk_region ?_
    refine wl_p (fun _ => o_faddr (s := 54) (i := 1) (off := 1) Tryz.underlying54 rfl Tryz.sizeOf39 rfl rfl rfl) ?_
    refine wl_r (o_loadbg Tryz.isAgg39 rfl f1 (by rfl)) ?_
    refine wl_call rfl (C_leafKey _ (by omega)) ?_
    rintro v5 w5 ⟨rfl, rfl⟩
    refine wl_p (fun _ => o_move rfl) ?_
    refine wl_know 6 false rfl (decide_eq_false (by omega)) ?_
    refine wl_off ?_
    refine wl_off ?_
    refine wl_off ?_
    refine wl_off ?_
    refine wl_p (fun _ => o_pick_f rfl rfl) ?_
    refine wl_p (fun _ => o_move rfl) ?_
    refine wl_off ?_
    refine wl_off ?_
    refine wl_off ?_
    refine wl_off ?_
    refine wl_p (fun _ => o_pick_f rfl rfl) ?_
    refine wl_p (fun _ => o_assign rfl) ?_
    refine wl_nil ?_
    refine ret1 rfl rfl ?_
    exact ⟨by simp [goodS, h1], hw⟩
theorem C_goodWho {K V : Option Addr} {n c m d : Nat} {k k2 : Int} {u : Ky} (w : World) (hk : k2 ≠ 1) (hk2 : k2 ≠ 2) :
    CallsR Tryz.prog 77 [.agg (opC k K n c V m d u).toArray] w fun v w' => v = .bool (goodS k2 n m u) ∧ Below w.heap.size w w' := by
  refine callsR Tryz.func77 rfl rfl (by kernel_rfl) rfl ?_
  have hw := Below.refl w.heap.size w
  by_cases h1 : n = 0
  · refine rk_seq ?_
    refine rk_region ?_
    refine wl_boxg _ rfl (by rfl) ?_
    rintro g1 w1 f1 b1 i1 i1_1
    have s1 := b1.size
    replace hw := hw.trans (b1.mono hw.size)
    refine wl_p (fun _ => o_assign rfl) ?_
    refine wl_nil ?_
    refine rk_seq ?_
    refine rk_region ?_
    refine wl_p (fun _ => o_faddr (s := 54) (i := 1) (off := 1) Tryz.underlying54 rfl Tryz.sizeOf39 rfl rfl rfl) ?_
    refine wl_r (o_loadbg Tryz.isAgg39 rfl f1 (by rfl)) ?_
    refine wl_p (fun _ => o_len (t := 39) Tryz.underlying39 rfl) ?_
    refine wl_p (fun _ => o_eq rfl rfl) ?_
    refine wl_p (fun _ => o_move rfl) ?_
    refine wl_know 7 true rfl (decide_eq_true (by omega)) ?_
    refine wl_p (fun _ => o_faddr (s := 54) (i := 2) (off := 2) Tryz.underlying54 rfl Tryz.sizeOf39 rfl rfl rfl) ?_
    refine wl_r (o_loadbg Tryz.isAgg39 rfl f1 (by rfl)) ?_
    refine wl_p (fun _ => o_len (t := 39) Tryz.underlying39 rfl) ?_
    refine wl_p (fun _ => o_eq rfl rfl) ?_
    refine wl_p (fun _ => o_pick_t rfl rfl) ?_
    refine wl_p (fun _ => o_assign rfl) ?_
    refine wl_nil ?_
    refine ret1 rfl rfl ?_
    exact ⟨by simp [goodS, h1, hk, hk2], hw⟩
  · refine rk_seq ?_
    refine rk_region ?_
    refine wl_boxg _ rfl (by rfl) ?_
    rintro g1 w1 f1 b1 i1 i1_1
    have s1 := b1.size
    replace hw := hw.trans (b1.mono hw.size)
    refine wl_p (fun _ => o_assign rfl) ?_
    refine wl_nil ?_
    refine rk_seq ?_
    refine rk_region ?_
    refine wl_p (fun _ => o_faddr (s := 54) (i := 1) (off := 1) Tryz.underlying54 rfl Tryz.sizeOf39 rfl rfl rfl) ?_
    refine wl_r (o_loadbg Tryz.isAgg39 rfl f1 (by rfl)) ?_
    refine wl_p (fun _ => o_len (t := 39) Tryz.underlying39 rfl) ?_
    refine wl_p (fun _ => o_eq rfl rfl) ?_
    refine wl_p (fun _ => o_move rfl) ?_
    refine wl_know 7 false rfl (decide_eq_false (by omega)) ?_
    refine wl_off ?_
    refine wl_off ?_
    refine wl_off ?_
    refine wl_off ?_
    refine wl_p (fun _ => o_pick_f rfl rfl) ?_
    refine wl_p (fun _ => o_assign rfl) ?_
    refine wl_nil ?_
    refine ret1 rfl rfl ?_
    exact ⟨by simp [goodS, h1, hk, hk2], hw⟩
end Go.Proofs.YtahkeoegbjopfaaGreat
/-
  Walks of package ops: the shapes of ops, by their kinds; whether an op is valid.
-/
namespace Go.Proofs.YtahkeoegbjopfaaGreat
set_option maxRecDepth 100000
open Go.RowKit
section
variable {P : Program} {N : Nat} {fr : Fr} {w : World} {ty t e : TypeId} {x y : Operand} {g n sz : Nat} {k : IntKind} {m : Int}
--@ rule indexAddr p o_iaddrPn
theorem o_iaddrPn (j : Nat) (hu : P.underlying t = some (.array n e)) (hs : ∀ w, (sizeOf e).run P w = .ok sz w) (hx : fr.ev x = some (.pointer (some ⟨g, 0, none⟩))) (hy : fr.ev y = some (.int k m)) (hm : m = (j : Int)) (hj : j < n) :
    OpV P N fr w (.indexAddr t x y) ty (.pointer (some ⟨g, j * sz, none⟩)) w := fun a ha op hop _ => by
  subst hm
  have h2 : ¬ n ≤ j := by omega
  simp [execOp, hop, ha.ev hx, ha.ev hy, Instr.indexAt, run_underlying hu, asIntOf, hs, add_plain, Instr.sureAddr, h2]
end
/-- The functions of a kind. -/
def Sh4 (k : Int) (gf pf rf df : Nat) : Prop :=
  (k = 1 ∧ gf = 69 ∧ pf = 70 ∧ rf = 71 ∧ df = 72) ∨
  (k = 2 ∧ gf = 73 ∧ pf = 74 ∧ rf = 75 ∧ df = 76) ∨
  (k = 3 ∧ gf = 77 ∧ pf = 78 ∧ rf = 79 ∧ df = 80) ∨
  (k = 4 ∧ gf = 77 ∧ pf = 78 ∧ rf = 79 ∧ df = 81) ∨
  (k = 5 ∧ gf = 77 ∧ pf = 78 ∧ rf = 79 ∧ df = 82) ∨
  (k = 6 ∧ gf = 77 ∧ pf = 78 ∧ rf = 79 ∧ df = 83)
theorem C_formOk {k : Int} (w : World) (h1 : 1 ≤ k) (h6 : k ≤ 6) :
    CallsR Tryz.prog 40 [.int .i64 k] w fun v w' => ∃ gf pf rf df, v = .tuple #[.agg #[.func (.func gf) #[] #[], .func (.func pf) #[] #[], .func (.func rf) #[] #[], .func (.func df) #[] #[]], .bool true] ∧ Sh4 k gf pf rf df ∧ Below w.heap.size w w' := by
  obtain rfl | rfl | rfl | rfl | rfl | rfl : k = 1 ∨ k = 2 ∨ k = 3 ∨ k = 4 ∨ k = 5 ∨ k = 6 := by omega
  · refine callsR Tryz.func40 rfl rfl (by kernel_rfl) rfl ?_
    have hw := Below.refl w.heap.size w
    refine rk_seq ?_
    refine rk_region ?_
    refine wl_allocg [_, _, _, _] Tryz.zeroValue89 (by rfl) ?_
    rintro g2 w2 f2 b2 i2 i2_1
    have s2 := b2.size
    replace hw := hw.trans (b2.mono hw.size)
    refine wl_p (fun _ => o_assign rfl) ?_
    refine wl_nil ?_
    refine rk_seq ?_
    refine rk_region ?_
    refine wl_p (fun _ => (o_buildg [_, _, _, _] Tryz.underlying89 Tryz.zeroValue89 (by rfl) (by rfl) rfl (by rfl) (by rfl) (fun _ => by kernel_rfl))) ?_
    refine wl_p (fun _ => (o_buildg [_, _, _, _] Tryz.underlying89 Tryz.zeroValue89 (by rfl) (by rfl) rfl (by rfl) (by rfl) (fun _ => by kernel_rfl))) ?_
    refine wl_p (fun _ => (o_buildg [_, _, _, _] Tryz.underlying89 Tryz.zeroValue89 (by rfl) (by rfl) rfl (by rfl) (by rfl) (fun _ => by kernel_rfl))) ?_
    refine wl_p (fun _ => (o_buildg [_, _, _, _] Tryz.underlying89 Tryz.zeroValue89 (by rfl) (by rfl) rfl (by rfl) (by rfl) (fun _ => by kernel_rfl))) ?_
    refine wl_p (fun _ => (o_buildg [_, _, _, _] Tryz.underlying89 Tryz.zeroValue89 (by rfl) (by rfl) rfl (by rfl) (by rfl) (fun _ => by kernel_rfl))) ?_
    refine wl_p (fun _ => (o_buildg [_, _, _, _] Tryz.underlying89 Tryz.zeroValue89 (by rfl) (by rfl) rfl (by rfl) (by rfl) (fun _ => by kernel_rfl))) ?_
    refine wl_p (fun _ => (o_buildga [_, _, _, _, _, _, _, _, _, _, _, _, _, _, _, _, _, _, _, _, _, _, _, _, _, _, _, _] Tryz.underlying122 Tryz.sizeOf89 Tryz.zeroValue122 (by rfl) (by rfl) rfl (by rfl) (by rfl) (fun _ => by kernel_rfl))) ?_
    refine wl_allocg [_, _, _, _, _, _, _, _, _, _, _, _, _, _, _, _, _, _, _, _, _, _, _, _, _, _, _, _] Tryz.zeroValue122 (by rfl) ?_
    rintro g4 w4 f4 b4 i4 i4_1
    have s4 := b4.size
    replace hw := hw.trans (b4.mono hw.size)
    replace f2 := f2.u b4
    refine wl_storega Tryz.sizeOf122 rfl rfl (by rfl) (by decide) f4 (by rfl) ?_
    rintro w_1 f g e
    have s := g.size
    replace hw := hw.trans (below_of_grownBy g.g hw.size (by omega))
    replace f2 := f2.k g.g (ap_some (by omega))
    clear f4
    refine wl_nil ?_
    refine rk_seq ?_
    refine rk_seq ?_
    refine rk_region ?_
    refine wl_p (fun _ => o_move rfl) ?_
    refine wl_p (fun _ => o_lt rfl rfl) ?_
    refine wl_p (fun _ => o_move rfl) ?_
    refine wl_p (fun _ => o_move rfl) ?_
    refine wl_p (fun _ => o_ge rfl rfl) ?_
    refine wl_p (fun _ => o_pick_f rfl rfl) ?_
    refine wl_nil ?_
    refine rk_false rfl ?_
    refine rk_skip ?_
    refine rk_seq ?_
    refine rk_region ?_
    refine wl_p (fun _ => o_move rfl) ?_
    refine wl_p (fun _ => (o_iaddrPn (1) Tryz.underlying122 Tryz.sizeOf89 rfl rfl (by omega) (by omega))) ?_
    refine wl_r (o_loadCut Tryz.isAgg89 Tryz.sizeOf89 rfl f (by rfl) (by rfl)) ?_
    refine wl_storega Tryz.sizeOf89 rfl rfl (by rfl) (by decide) f2 (by rfl) ?_
    rintro w_2 f_1 g_1 e_1
    have s_1 := g_1.size
    replace hw := hw.trans (below_of_grownBy g_1.g hw.size (by omega))
    replace f := f.k g_1.g (ap_some (by omega))
    clear f2
    refine wl_p (fun _ => o_assign rfl) ?_
    refine wl_nil ?_
    refine ret_any rfl (.cell rfl Tryz.isAgg89 Tryz.sizeOf89 (by assumption) rfl <| .tmp rfl <| .nil) (by simp) ?_
    exact ⟨_, _, _, _, rfl, by simp [Sh4], hw⟩
  · refine callsR Tryz.func40 rfl rfl (by kernel_rfl) rfl ?_
    have hw := Below.refl w.heap.size w
    refine rk_seq ?_
    refine rk_region ?_
    refine wl_allocg [_, _, _, _] Tryz.zeroValue89 (by rfl) ?_
    rintro g2 w2 f2 b2 i2 i2_1
    have s2 := b2.size
    replace hw := hw.trans (b2.mono hw.size)
    refine wl_p (fun _ => o_assign rfl) ?_
    refine wl_nil ?_
    refine rk_seq ?_
    refine rk_region ?_
    refine wl_p (fun _ => (o_buildg [_, _, _, _] Tryz.underlying89 Tryz.zeroValue89 (by rfl) (by rfl) rfl (by rfl) (by rfl) (fun _ => by kernel_rfl))) ?_
    refine wl_p (fun _ => (o_buildg [_, _, _, _] Tryz.underlying89 Tryz.zeroValue89 (by rfl) (by rfl) rfl (by rfl) (by rfl) (fun _ => by kernel_rfl))) ?_
    refine wl_p (fun _ => (o_buildg [_, _, _, _] Tryz.underlying89 Tryz.zeroValue89 (by rfl) (by rfl) rfl (by rfl) (by rfl) (fun _ => by kernel_rfl))) ?_
    refine wl_p (fun _ => (o_buildg [_, _, _, _] Tryz.underlying89 Tryz.zeroValue89 (by rfl) (by rfl) rfl (by rfl) (by rfl) (fun _ => by kernel_rfl))) ?_
    refine wl_p (fun _ => (o_buildg [_, _, _, _] Tryz.underlying89 Tryz.zeroValue89 (by rfl) (by rfl) rfl (by rfl) (by rfl) (fun _ => by kernel_rfl))) ?_
    refine wl_p (fun _ => (o_buildg [_, _, _, _] Tryz.underlying89 Tryz.zeroValue89 (by rfl) (by rfl) rfl (by rfl) (by rfl) (fun _ => by kernel_rfl))) ?_
    refine wl_p (fun _ => (o_buildga [_, _, _, _, _, _, _, _, _, _, _, _, _, _, _, _, _, _, _, _, _, _, _, _, _, _, _, _] Tryz.underlying122 Tryz.sizeOf89 Tryz.zeroValue122 (by rfl) (by rfl) rfl (by rfl) (by rfl) (fun _ => by kernel_rfl))) ?_
    refine wl_allocg [_, _, _, _, _, _, _, _, _, _, _, _, _, _, _, _, _, _, _, _, _, _, _, _, _, _, _, _] Tryz.zeroValue122 (by rfl) ?_
    rintro g4 w4 f4 b4 i4 i4_1
    have s4 := b4.size
    replace hw := hw.trans (b4.mono hw.size)
    replace f2 := f2.u b4
    refine wl_storega Tryz.sizeOf122 rfl rfl (by rfl) (by decide) f4 (by rfl) ?_
    rintro w_1 f g e
    have s := g.size
    replace hw := hw.trans (below_of_grownBy g.g hw.size (by omega))
    replace f2 := f2.k g.g (ap_some (by omega))
    clear f4
    refine wl_nil ?_
    refine rk_seq ?_
    refine rk_seq ?_
    refine rk_region ?_
    refine wl_p (fun _ => o_move rfl) ?_
    refine wl_p (fun _ => o_lt rfl rfl) ?_
    refine wl_p (fun _ => o_move rfl) ?_
    refine wl_p (fun _ => o_move rfl) ?_
    refine wl_p (fun _ => o_ge rfl rfl) ?_
    refine wl_p (fun _ => o_pick_f rfl rfl) ?_
    refine wl_nil ?_
    refine rk_false rfl ?_
    refine rk_skip ?_
    refine rk_seq ?_
    refine rk_region ?_
    refine wl_p (fun _ => o_move rfl) ?_
    refine wl_p (fun _ => (o_iaddrPn (2) Tryz.underlying122 Tryz.sizeOf89 rfl rfl (by omega) (by omega))) ?_
    refine wl_r (o_loadCut Tryz.isAgg89 Tryz.sizeOf89 rfl f (by rfl) (by rfl)) ?_
    refine wl_storega Tryz.sizeOf89 rfl rfl (by rfl) (by decide) f2 (by rfl) ?_
    rintro w_2 f_1 g_1 e_1
    have s_1 := g_1.size
    replace hw := hw.trans (below_of_grownBy g_1.g hw.size (by omega))
    replace f := f.k g_1.g (ap_some (by omega))
    clear f2
    refine wl_p (fun _ => o_assign rfl) ?_
    refine wl_nil ?_
    refine ret_any rfl (.cell rfl Tryz.isAgg89 Tryz.sizeOf89 (by assumption) rfl <| .tmp rfl <| .nil) (by simp) ?_
    exact ⟨_, _, _, _, rfl, by simp [Sh4], hw⟩
  · refine callsR Tryz.func40 rfl rfl (by kernel_rfl) rfl ?_
    have hw := Below.refl w.heap.size w
    refine rk_seq ?_
    refine rk_region ?_
    refine wl_allocg [_, _, _, _] Tryz.zeroValue89 (by rfl) ?_
    rintro g2 w2 f2 b2 i2 i2_1
    have s2 := b2.size
    replace hw := hw.trans (b2.mono hw.size)
    refine wl_p (fun _ => o_assign rfl) ?_
    refine wl_nil ?_
    refine rk_seq ?_
    refine rk_region ?_
    refine wl_p (fun _ => (o_buildg [_, _, _, _] Tryz.underlying89 Tryz.zeroValue89 (by rfl) (by rfl) rfl (by rfl) (by rfl) (fun _ => by kernel_rfl))) ?_
    refine wl_p (fun _ => (o_buildg [_, _, _, _] Tryz.underlying89 Tryz.zeroValue89 (by rfl) (by rfl) rfl (by rfl) (by rfl) (fun _ => by kernel_rfl))) ?_
    refine wl_p (fun _ => (o_buildg [_, _, _, _] Tryz.underlying89 Tryz.zeroValue89 (by rfl) (by rfl) rfl (by rfl) (by rfl) (fun _ => by kernel_rfl))) ?_
    refine wl_p (fun _ => (o_buildg [_, _, _, _] Tryz.underlying89 Tryz.zeroValue89 (by rfl) (by rfl) rfl (by rfl) (by rfl) (fun _ => by kernel_rfl))) ?_
    refine wl_p (fun _ => (o_buildg [_, _, _, _] Tryz.underlying89 Tryz.zeroValue89 (by rfl) (by rfl) rfl (by rfl) (by rfl) (fun _ => by kernel_rfl))) ?_
    refine wl_p (fun _ => (o_buildg [_, _, _, _] Tryz.underlying89 Tryz.zeroValue89 (by rfl) (by rfl) rfl (by rfl) (by rfl) (fun _ => by kernel_rfl))) ?_
    refine wl_p (fun _ => (o_buildga [_, _, _, _, _, _, _, _, _, _, _, _, _, _, _, _, _, _, _, _, _, _, _, _, _, _, _, _] Tryz.underlying122 Tryz.sizeOf89 Tryz.zeroValue122 (by rfl) (by rfl) rfl (by rfl) (by rfl) (fun _ => by kernel_rfl))) ?_
    refine wl_allocg [_, _, _, _, _, _, _, _, _, _, _, _, _, _, _, _, _, _, _, _, _, _, _, _, _, _, _, _] Tryz.zeroValue122 (by rfl) ?_
    rintro g4 w4 f4 b4 i4 i4_1
    have s4 := b4.size
    replace hw := hw.trans (b4.mono hw.size)
    replace f2 := f2.u b4
    refine wl_storega Tryz.sizeOf122 rfl rfl (by rfl) (by decide) f4 (by rfl) ?_
    rintro w_1 f g e
    have s := g.size
    replace hw := hw.trans (below_of_grownBy g.g hw.size (by omega))
    replace f2 := f2.k g.g (ap_some (by omega))
    clear f4
    refine wl_nil ?_
    refine rk_seq ?_
    refine rk_seq ?_
    refine rk_region ?_
    refine wl_p (fun _ => o_move rfl) ?_
    refine wl_p (fun _ => o_lt rfl rfl) ?_
    refine wl_p (fun _ => o_move rfl) ?_
    refine wl_p (fun _ => o_move rfl) ?_
    refine wl_p (fun _ => o_ge rfl rfl) ?_
    refine wl_p (fun _ => o_pick_f rfl rfl) ?_
    refine wl_nil ?_
    refine rk_false rfl ?_
    refine rk_skip ?_
    refine rk_seq ?_
    refine rk_region ?_
    refine wl_p (fun _ => o_move rfl) ?_
    refine wl_p (fun _ => (o_iaddrPn (3) Tryz.underlying122 Tryz.sizeOf89 rfl rfl (by omega) (by omega))) ?_
    refine wl_r (o_loadCut Tryz.isAgg89 Tryz.sizeOf89 rfl f (by rfl) (by rfl)) ?_
    refine wl_storega Tryz.sizeOf89 rfl rfl (by rfl) (by decide) f2 (by rfl) ?_
    rintro w_2 f_1 g_1 e_1
    have s_1 := g_1.size
    replace hw := hw.trans (below_of_grownBy g_1.g hw.size (by omega))
    replace f := f.k g_1.g (ap_some (by omega))
    clear f2
    refine wl_p (fun _ => o_assign rfl) ?_
    refine wl_nil ?_
    refine ret_any rfl (.cell rfl Tryz.isAgg89 Tryz.sizeOf89 (by assumption) rfl <| .tmp rfl <| .nil) (by simp) ?_
    exact ⟨_, _, _, _, rfl, by simp [Sh4], hw⟩
  · refine callsR Tryz.func40 rfl rfl (by kernel_rfl) rfl ?_
    have hw := Below.refl w.heap.size w
    refine rk_seq ?_
    refine rk_region ?_
    refine wl_allocg [_, _, _, _] Tryz.zeroValue89 (by rfl) ?_
    rintro g2 w2 f2 b2 i2 i2_1
    have s2 := b2.size
    replace hw := hw.trans (b2.mono hw.size)
    refine wl_p (fun _ => o_assign rfl) ?_
    refine wl_nil ?_
    refine rk_seq ?_
    refine rk_region ?_
    refine wl_p (fun _ => (o_buildg [_, _, _, _] Tryz.underlying89 Tryz.zeroValue89 (by rfl) (by rfl) rfl (by rfl) (by rfl) (fun _ => by kernel_rfl))) ?_
    refine wl_p (fun _ => (o_buildg [_, _, _, _] Tryz.underlying89 Tryz.zeroValue89 (by rfl) (by rfl) rfl (by rfl) (by rfl) (fun _ => by kernel_rfl))) ?_
    refine wl_p (fun _ => (o_buildg [_, _, _, _] Tryz.underlying89 Tryz.zeroValue89 (by rfl) (by rfl) rfl (by rfl) (by rfl) (fun _ => by kernel_rfl))) ?_
    refine wl_p (fun _ => (o_buildg [_, _, _, _] Tryz.underlying89 Tryz.zeroValue89 (by rfl) (by rfl) rfl (by rfl) (by rfl) (fun _ => by kernel_rfl))) ?_
    refine wl_p (fun _ => (o_buildg [_, _, _, _] Tryz.underlying89 Tryz.zeroValue89 (by rfl) (by rfl) rfl (by rfl) (by rfl) (fun _ => by kernel_rfl))) ?_
    refine wl_p (fun _ => (o_buildg [_, _, _, _] Tryz.underlying89 Tryz.zeroValue89 (by rfl) (by rfl) rfl (by rfl) (by rfl) (fun _ => by kernel_rfl))) ?_
    refine wl_p (fun _ => (o_buildga [_, _, _, _, _, _, _, _, _, _, _, _, _, _, _, _, _, _, _, _, _, _, _, _, _, _, _, _] Tryz.underlying122 Tryz.sizeOf89 Tryz.zeroValue122 (by rfl) (by rfl) rfl (by rfl) (by rfl) (fun _ => by kernel_rfl))) ?_
    refine wl_allocg [_, _, _, _, _, _, _, _, _, _, _, _, _, _, _, _, _, _, _, _, _, _, _, _, _, _, _, _] Tryz.zeroValue122 (by rfl) ?_
    rintro g4 w4 f4 b4 i4 i4_1
    have s4 := b4.size
    replace hw := hw.trans (b4.mono hw.size)
    replace f2 := f2.u b4
    refine wl_storega Tryz.sizeOf122 rfl rfl (by rfl) (by decide) f4 (by rfl) ?_
    rintro w_1 f g e
    have s := g.size
    replace hw := hw.trans (below_of_grownBy g.g hw.size (by omega))
    replace f2 := f2.k g.g (ap_some (by omega))
    clear f4
    refine wl_nil ?_
    refine rk_seq ?_
    refine rk_seq ?_
    refine rk_region ?_
    refine wl_p (fun _ => o_move rfl) ?_
    refine wl_p (fun _ => o_lt rfl rfl) ?_
    refine wl_p (fun _ => o_move rfl) ?_
    refine wl_p (fun _ => o_move rfl) ?_
    refine wl_p (fun _ => o_ge rfl rfl) ?_
    refine wl_p (fun _ => o_pick_f rfl rfl) ?_
    refine wl_nil ?_
    refine rk_false rfl ?_
    refine rk_skip ?_
    refine rk_seq ?_
    refine rk_region ?_
    refine wl_p (fun _ => o_move rfl) ?_
    refine wl_p (fun _ => (o_iaddrPn (4) Tryz.underlying122 Tryz.sizeOf89 rfl rfl (by omega) (by omega))) ?_
    refine wl_r (o_loadCut Tryz.isAgg89 Tryz.sizeOf89 rfl f (by rfl) (by rfl)) ?_
    refine wl_storega Tryz.sizeOf89 rfl rfl (by rfl) (by decide) f2 (by rfl) ?_
    rintro w_2 f_1 g_1 e_1
    have s_1 := g_1.size
    replace hw := hw.trans (below_of_grownBy g_1.g hw.size (by omega))
    replace f := f.k g_1.g (ap_some (by omega))
    clear f2
    refine wl_p (fun _ => o_assign rfl) ?_
    refine wl_nil ?_
    refine ret_any rfl (.cell rfl Tryz.isAgg89 Tryz.sizeOf89 (by assumption) rfl <| .tmp rfl <| .nil) (by simp) ?_
    exact ⟨_, _, _, _, rfl, by simp [Sh4], hw⟩
  · refine callsR Tryz.func40 rfl rfl (by kernel_rfl) rfl ?_
    have hw := Below.refl w.heap.size w
    refine rk_seq ?_
    refine rk_region ?_
    refine wl_allocg [_, _, _, _] Tryz.zeroValue89 (by rfl) ?_
    rintro g2 w2 f2 b2 i2 i2_1
    have s2 := b2.size
    replace hw := hw.trans (b2.mono hw.size)
    refine wl_p (fun _ => o_assign rfl) ?_
    refine wl_nil ?_
    refine rk_seq ?_
    refine rk_region ?_
    refine wl_p (fun _ => (o_buildg [_, _, _, _] Tryz.underlying89 Tryz.zeroValue89 (by rfl) (by rfl) rfl (by rfl) (by rfl) (fun _ => by kernel_rfl))) ?_
    refine wl_p (fun _ => (o_buildg [_, _, _, _] Tryz.underlying89 Tryz.zeroValue89 (by rfl) (by rfl) rfl (by rfl) (by rfl) (fun _ => by kernel_rfl))) ?_
    refine wl_p (fun _ => (o_buildg [_, _, _, _] Tryz.underlying89 Tryz.zeroValue89 (by rfl) (by rfl) rfl (by rfl) (by rfl) (fun _ => by kernel_rfl))) ?_
    refine wl_p (fun _ => (o_buildg [_, _, _, _] Tryz.underlying89 Tryz.zeroValue89 (by rfl) (by rfl) rfl (by rfl) (by rfl) (fun _ => by kernel_rfl))) ?_
    refine wl_p (fun _ => (o_buildg [_, _, _, _] Tryz.underlying89 Tryz.zeroValue89 (by rfl) (by rfl) rfl (by rfl) (by rfl) (fun _ => by kernel_rfl))) ?_
    refine wl_p (fun _ => (o_buildg [_, _, _, _] Tryz.underlying89 Tryz.zeroValue89 (by rfl) (by rfl) rfl (by rfl) (by rfl) (fun _ => by kernel_rfl))) ?_
    refine wl_p (fun _ => (o_buildga [_, _, _, _, _, _, _, _, _, _, _, _, _, _, _, _, _, _, _, _, _, _, _, _, _, _, _, _] Tryz.underlying122 Tryz.sizeOf89 Tryz.zeroValue122 (by rfl) (by rfl) rfl (by rfl) (by rfl) (fun _ => by kernel_rfl))) ?_
    refine wl_allocg [_, _, _, _, _, _, _, _, _, _, _, _, _, _, _, _, _, _, _, _, _, _, _, _, _, _, _, _] Tryz.zeroValue122 (by rfl) ?_
    rintro g4 w4 f4 b4 i4 i4_1
    have s4 := b4.size
    replace hw := hw.trans (b4.mono hw.size)
    replace f2 := f2.u b4
    refine wl_storega Tryz.sizeOf122 rfl rfl (by rfl) (by decide) f4 (by rfl) ?_
    rintro w_1 f g e
    have s := g.size
    replace hw := hw.trans (below_of_grownBy g.g hw.size (by omega))
    replace f2 := f2.k g.g (ap_some (by omega))
    clear f4
    refine wl_nil ?_
    refine rk_seq ?_
    refine rk_seq ?_
    refine rk_region ?_
    refine wl_p (fun _ => o_move rfl) ?_
    refine wl_p (fun _ => o_lt rfl rfl) ?_
    refine wl_p (fun _ => o_move rfl) ?_
    refine wl_p (fun _ => o_move rfl) ?_
    refine wl_p (fun _ => o_ge rfl rfl) ?_
    refine wl_p (fun _ => o_pick_f rfl rfl) ?_
    refine wl_nil ?_
    refine rk_false rfl ?_
    refine rk_skip ?_
    refine rk_seq ?_
    refine rk_region ?_
    refine wl_p (fun _ => o_move rfl) ?_
    refine wl_p (fun _ => (o_iaddrPn (5) Tryz.underlying122 Tryz.sizeOf89 rfl rfl (by omega) (by omega))) ?_
    refine wl_r (o_loadCut Tryz.isAgg89 Tryz.sizeOf89 rfl f (by rfl) (by rfl)) ?_
    refine wl_storega Tryz.sizeOf89 rfl rfl (by rfl) (by decide) f2 (by rfl) ?_
    rintro w_2 f_1 g_1 e_1
    have s_1 := g_1.size
    replace hw := hw.trans (below_of_grownBy g_1.g hw.size (by omega))
    replace f := f.k g_1.g (ap_some (by omega))
    clear f2
    refine wl_p (fun _ => o_assign rfl) ?_
    refine wl_nil ?_
    refine ret_any rfl (.cell rfl Tryz.isAgg89 Tryz.sizeOf89 (by assumption) rfl <| .tmp rfl <| .nil) (by simp) ?_
    exact ⟨_, _, _, _, rfl, by simp [Sh4], hw⟩
  · refine callsR Tryz.func40 rfl rfl (by kernel_rfl) rfl ?_
    have hw := Below.refl w.heap.size w
    refine rk_seq ?_
    refine rk_region ?_
    refine wl_allocg [_, _, _, _] Tryz.zeroValue89 (by rfl) ?_
    rintro g2 w2 f2 b2 i2 i2_1
    have s2 := b2.size
    replace hw := hw.trans (b2.mono hw.size)
    refine wl_p (fun _ => o_assign rfl) ?_
    refine wl_nil ?_
    refine rk_seq ?_
    refine rk_region ?_
    refine wl_p (fun _ => (o_buildg [_, _, _, _] Tryz.underlying89 Tryz.zeroValue89 (by rfl) (by rfl) rfl (by rfl) (by rfl) (fun _ => by kernel_rfl))) ?_
    refine wl_p (fun _ => (o_buildg [_, _, _, _] Tryz.underlying89 Tryz.zeroValue89 (by rfl) (by rfl) rfl (by rfl) (by rfl) (fun _ => by kernel_rfl))) ?_
    refine wl_p (fun _ => (o_buildg [_, _, _, _] Tryz.underlying89 Tryz.zeroValue89 (by rfl) (by rfl) rfl (by rfl) (by rfl) (fun _ => by kernel_rfl))) ?_
    refine wl_p (fun _ => (o_buildg [_, _, _, _] Tryz.underlying89 Tryz.zeroValue89 (by rfl) (by rfl) rfl (by rfl) (by rfl) (fun _ => by kernel_rfl))) ?_
    refine wl_p (fun _ => (o_buildg [_, _, _, _] Tryz.underlying89 Tryz.zeroValue89 (by rfl) (by rfl) rfl (by rfl) (by rfl) (fun _ => by kernel_rfl))) ?_
    refine wl_p (fun _ => (o_buildg [_, _, _, _] Tryz.underlying89 Tryz.zeroValue89 (by rfl) (by rfl) rfl (by rfl) (by rfl) (fun _ => by kernel_rfl))) ?_
    refine wl_p (fun _ => (o_buildga [_, _, _, _, _, _, _, _, _, _, _, _, _, _, _, _, _, _, _, _, _, _, _, _, _, _, _, _] Tryz.underlying122 Tryz.sizeOf89 Tryz.zeroValue122 (by rfl) (by rfl) rfl (by rfl) (by rfl) (fun _ => by kernel_rfl))) ?_
    refine wl_allocg [_, _, _, _, _, _, _, _, _, _, _, _, _, _, _, _, _, _, _, _, _, _, _, _, _, _, _, _] Tryz.zeroValue122 (by rfl) ?_
    rintro g4 w4 f4 b4 i4 i4_1
    have s4 := b4.size
    replace hw := hw.trans (b4.mono hw.size)
    replace f2 := f2.u b4
    refine wl_storega Tryz.sizeOf122 rfl rfl (by rfl) (by decide) f4 (by rfl) ?_
    rintro w_1 f g e
    have s := g.size
    replace hw := hw.trans (below_of_grownBy g.g hw.size (by omega))
    replace f2 := f2.k g.g (ap_some (by omega))
    clear f4
    refine wl_nil ?_
    refine rk_seq ?_
    refine rk_seq ?_
    refine rk_region ?_
    refine wl_p (fun _ => o_move rfl) ?_
    refine wl_p (fun _ => o_lt rfl rfl) ?_
    refine wl_p (fun _ => o_move rfl) ?_
    refine wl_p (fun _ => o_move rfl) ?_
    refine wl_p (fun _ => o_ge rfl rfl) ?_
    refine wl_p (fun _ => o_pick_f rfl rfl) ?_
    refine wl_nil ?_
    refine rk_false rfl ?_
    refine rk_skip ?_
    refine rk_seq ?_
    refine rk_region ?_
    refine wl_p (fun _ => o_move rfl) ?_
    refine wl_p (fun _ => (o_iaddrPn (6) Tryz.underlying122 Tryz.sizeOf89 rfl rfl (by omega) (by omega))) ?_
    refine wl_r (o_loadCut Tryz.isAgg89 Tryz.sizeOf89 rfl f (by rfl) (by rfl)) ?_
    refine wl_storega Tryz.sizeOf89 rfl rfl (by rfl) (by decide) f2 (by rfl) ?_
    rintro w_2 f_1 g_1 e_1
    have s_1 := g_1.size
    replace hw := hw.trans (below_of_grownBy g_1.g hw.size (by omega))
    replace f := f.k g_1.g (ap_some (by omega))
    clear f2
    refine wl_p (fun _ => o_assign rfl) ?_
    refine wl_nil ?_
    refine ret_any rfl (.cell rfl Tryz.isAgg89 Tryz.sizeOf89 (by assumption) rfl <| .tmp rfl <| .nil) (by simp) ?_
    exact ⟨_, _, _, _, rfl, by simp [Sh4], hw⟩
theorem C_formBad {k : Int} (w : World) (h : k < 1 ∨ 6 < k) :
    CallsR Tryz.prog 40 [.int .i64 k] w fun v w' => v = .tuple #[.agg #[.nilFunc, .nilFunc, .nilFunc, .nilFunc], .bool false] ∧ Below w.heap.size w w' := by
  refine callsR Tryz.func40 rfl rfl (by kernel_rfl) rfl ?_
  have hw := Below.refl w.heap.size w
  by_cases h1 : k < 1
  · refine rk_seq ?_
    refine rk_region ?_
    refine wl_allocg [_, _, _, _] Tryz.zeroValue89 (by rfl) ?_
    rintro g2 w2 f2 b2 i2 i2_1
    have s2 := b2.size
    replace hw := hw.trans (b2.mono hw.size)
    refine wl_p (fun _ => o_assign rfl) ?_
    refine wl_nil ?_
    refine rk_seq ?_
    refine rk_region ?_
    refine wl_p (fun _ => (o_buildg [_, _, _, _] Tryz.underlying89 Tryz.zeroValue89 (by rfl) (by rfl) rfl (by rfl) (by rfl) (fun _ => by kernel_rfl))) ?_
    refine wl_p (fun _ => (o_buildg [_, _, _, _] Tryz.underlying89 Tryz.zeroValue89 (by rfl) (by rfl) rfl (by rfl) (by rfl) (fun _ => by kernel_rfl))) ?_
    refine wl_p (fun _ => (o_buildg [_, _, _, _] Tryz.underlying89 Tryz.zeroValue89 (by rfl) (by rfl) rfl (by rfl) (by rfl) (fun _ => by kernel_rfl))) ?_
    refine wl_p (fun _ => (o_buildg [_, _, _, _] Tryz.underlying89 Tryz.zeroValue89 (by rfl) (by rfl) rfl (by rfl) (by rfl) (fun _ => by kernel_rfl))) ?_
    refine wl_p (fun _ => (o_buildg [_, _, _, _] Tryz.underlying89 Tryz.zeroValue89 (by rfl) (by rfl) rfl (by rfl) (by rfl) (fun _ => by kernel_rfl))) ?_
    refine wl_p (fun _ => (o_buildg [_, _, _, _] Tryz.underlying89 Tryz.zeroValue89 (by rfl) (by rfl) rfl (by rfl) (by rfl) (fun _ => by kernel_rfl))) ?_
    refine wl_p (fun _ => (o_buildga [_, _, _, _, _, _, _, _, _, _, _, _, _, _, _, _, _, _, _, _, _, _, _, _, _, _, _, _] Tryz.underlying122 Tryz.sizeOf89 Tryz.zeroValue122 (by rfl) (by rfl) rfl (by rfl) (by rfl) (fun _ => by kernel_rfl))) ?_
    refine wl_allocg [_, _, _, _, _, _, _, _, _, _, _, _, _, _, _, _, _, _, _, _, _, _, _, _, _, _, _, _] Tryz.zeroValue122 (by rfl) ?_
    rintro g4 w4 f4 b4 i4 i4_1
    have s4 := b4.size
    replace hw := hw.trans (b4.mono hw.size)
    replace f2 := f2.u b4
    refine wl_storega Tryz.sizeOf122 rfl rfl (by rfl) (by decide) f4 (by rfl) ?_
    rintro w_1 f g e
    have s := g.size
    replace hw := hw.trans (below_of_grownBy g.g hw.size (by omega))
    replace f2 := f2.k g.g (ap_some (by omega))
    clear f4
    refine wl_nil ?_
    refine rk_seq ?_
    refine rk_seq ?_
    refine rk_region ?_
    refine wl_p (fun _ => o_move rfl) ?_
    refine wl_p (fun _ => o_lt rfl rfl) ?_
    refine wl_p (fun _ => o_move rfl) ?_
    refine wl_know 14 true rfl (decide_eq_true (by omega)) ?_
    refine wl_off ?_
    refine wl_off ?_
    refine wl_p (fun _ => o_pick_t rfl rfl) ?_
    refine wl_nil ?_
    refine rk_true rfl ?_
    refine rk_seq ?_
    refine rk_region ?_
    refine wl_p (fun _ => (o_buildg [_, _, _, _] Tryz.underlying89 Tryz.zeroValue89 (by rfl) (by rfl) rfl (by rfl) (by rfl) (fun _ => by kernel_rfl))) ?_
    refine wl_storega Tryz.sizeOf89 rfl rfl (by rfl) (by decide) f2 (by rfl) ?_
    rintro w_2 f_1 g_1 e_1
    have s_1 := g_1.size
    replace hw := hw.trans (below_of_grownBy g_1.g hw.size (by omega))
    replace f := f.k g_1.g (ap_some (by omega))
    clear f2
    refine wl_p (fun _ => o_assign rfl) ?_
    refine wl_nil ?_
    refine ret_any rfl (.cell rfl Tryz.isAgg89 Tryz.sizeOf89 (by assumption) rfl <| .tmp rfl <| .nil) (by simp) ?_
    exact ⟨rfl, hw⟩
  · refine rk_seq ?_
    refine rk_region ?_
    refine wl_allocg [_, _, _, _] Tryz.zeroValue89 (by rfl) ?_
    rintro g2 w2 f2 b2 i2 i2_1
    have s2 := b2.size
    replace hw := hw.trans (b2.mono hw.size)
    refine wl_p (fun _ => o_assign rfl) ?_
    refine wl_nil ?_
    refine rk_seq ?_
    refine rk_region ?_
    refine wl_p (fun _ => (o_buildg [_, _, _, _] Tryz.underlying89 Tryz.zeroValue89 (by rfl) (by rfl) rfl (by rfl) (by rfl) (fun _ => by kernel_rfl))) ?_
    refine wl_p (fun _ => (o_buildg [_, _, _, _] Tryz.underlying89 Tryz.zeroValue89 (by rfl) (by rfl) rfl (by rfl) (by rfl) (fun _ => by kernel_rfl))) ?_
    refine wl_p (fun _ => (o_buildg [_, _, _, _] Tryz.underlying89 Tryz.zeroValue89 (by rfl) (by rfl) rfl (by rfl) (by rfl) (fun _ => by kernel_rfl))) ?_
    refine wl_p (fun _ => (o_buildg [_, _, _, _] Tryz.underlying89 Tryz.zeroValue89 (by rfl) (by rfl) rfl (by rfl) (by rfl) (fun _ => by kernel_rfl))) ?_
    refine wl_p (fun _ => (o_buildg [_, _, _, _] Tryz.underlying89 Tryz.zeroValue89 (by rfl) (by rfl) rfl (by rfl) (by rfl) (fun _ => by kernel_rfl))) ?_
    refine wl_p (fun _ => (o_buildg [_, _, _, _] Tryz.underlying89 Tryz.zeroValue89 (by rfl) (by rfl) rfl (by rfl) (by rfl) (fun _ => by kernel_rfl))) ?_
    refine wl_p (fun _ => (o_buildga [_, _, _, _, _, _, _, _, _, _, _, _, _, _, _, _, _, _, _, _, _, _, _, _, _, _, _, _] Tryz.underlying122 Tryz.sizeOf89 Tryz.zeroValue122 (by rfl) (by rfl) rfl (by rfl) (by rfl) (fun _ => by kernel_rfl))) ?_
    refine wl_allocg [_, _, _, _, _, _, _, _, _, _, _, _, _, _, _, _, _, _, _, _, _, _, _, _, _, _, _, _] Tryz.zeroValue122 (by rfl) ?_
    rintro g4 w4 f4 b4 i4 i4_1
    have s4 := b4.size
    replace hw := hw.trans (b4.mono hw.size)
    replace f2 := f2.u b4
    refine wl_storega Tryz.sizeOf122 rfl rfl (by rfl) (by decide) f4 (by rfl) ?_
    rintro w_1 f g e
    have s := g.size
    replace hw := hw.trans (below_of_grownBy g.g hw.size (by omega))
    replace f2 := f2.k g.g (ap_some (by omega))
    clear f4
    refine wl_nil ?_
    refine rk_seq ?_
    refine rk_seq ?_
    refine rk_region ?_
    refine wl_p (fun _ => o_move rfl) ?_
    refine wl_p (fun _ => o_lt rfl rfl) ?_
    refine wl_p (fun _ => o_move rfl) ?_
    refine wl_know 14 false rfl (decide_eq_false (by omega)) ?_
    refine wl_p (fun _ => o_move rfl) ?_
    refine wl_p (fun _ => o_ge rfl rfl) ?_
    refine wl_p (fun _ => o_pick_f rfl rfl) ?_
    refine wl_nil ?_
    refine rk_if rfl (fun h17 => ?_) (fun h17 => h17.elim (by omega))
    refine rk_seq ?_
    refine rk_region ?_
    refine wl_p (fun _ => (o_buildg [_, _, _, _] Tryz.underlying89 Tryz.zeroValue89 (by rfl) (by rfl) rfl (by rfl) (by rfl) (fun _ => by kernel_rfl))) ?_
    refine wl_storega Tryz.sizeOf89 rfl rfl (by rfl) (by decide) f2 (by rfl) ?_
    rintro w_2 f_1 g_1 e_1
    have s_1 := g_1.size
    replace hw := hw.trans (below_of_grownBy g_1.g hw.size (by omega))
    replace f := f.k g_1.g (ap_some (by omega))
    clear f2
    refine wl_p (fun _ => o_assign rfl) ?_
    refine wl_nil ?_
    refine ret_any rfl (.cell rfl Tryz.isAgg89 Tryz.sizeOf89 (by assumption) rfl <| .tmp rfl <| .nil) (by simp) ?_
    exact ⟨rfl, hw⟩
/-- Whether an op is valid. -/
def okOp (k : Int) (n m : Nat) (u : Ky) : Bool := decide (1 ≤ k) && decide (k ≤ 6) && goodS k n m u
theorem sh4_good {k kk : Int} {gf pf rf df : Nat} (h : Sh4 k gf pf rf df) {K V : Option Addr} {n c m d : Nat} {u : Ky} (w : World) (hn : n ≤ 4000000000) (hm : m ≤ 4000000000) :
    CallsR Tryz.prog gf [.agg (opC kk K n c V m d u).toArray] w fun v w' => v = .bool (goodS k n m u) ∧ Below w.heap.size w w' := by
  rcases h with ⟨rfl, rfl, _⟩ | ⟨rfl, rfl, _⟩ | ⟨rfl, rfl, _⟩ | ⟨rfl, rfl, _⟩ | ⟨rfl, rfl, _⟩ | ⟨rfl, rfl, _⟩
  · exact C_goodPut w hn hm
  · exact C_goodDelete w hn hm
  · exact C_goodWho w (by decide) (by decide)
  · exact C_goodWho w (by decide) (by decide)
  · exact C_goodWho w (by decide) (by decide)
  · exact C_goodWho w (by decide) (by decide)
theorem okOp_of {k : Int} {n m : Nat} {u : Ky} (h : okOp k n m u = true) : 1 ≤ k ∧ k ≤ 6 ∧ goodS k n m u = true := by
  simp only [okOp, Bool.and_eq_true, decide_eq_true_eq] at h
  exact ⟨h.1.1, h.1.2, h.2⟩
end Go.Proofs.YtahkeoegbjopfaaGreat
/-
  Arrays of bytes: sliced as a whole, made of slices. No function of the program is named here.
-/
namespace Go.Proofs.YtahkeoegbjopfaaGreat
set_option maxRecDepth 100000
open Go.RowKit
section
variable {P : Program} {fn : Func} {F : Ending → World → Prop} {N : Nat} {ks : List K} {ops : Array Oper} {tg : Tags} {l : List Oper} {fr : Fr} {w : World} {ty t t' : TypeId} {pos : String} {aft : Array Edge} {gd : Option (Nat × Bool)} {d n m g c j lo hi : Nat} {x y : Operand} {A : Option Addr} {b : List UInt8} {ad : Addr}
theorem o_slArrW (hu : P.underlying t = some (.array n 5)) (hs : ∀ w, (sizeOf 5).run P w = .ok 1 w) (hx : fr.ev x = some (.pointer (some ad))) : OpV P N fr w (.slice t x none none none) ty (.slice (some ad) n n) w := by
  intro a ha op hop _
  have e : ad.add 0 = ad := by cases ad; simp [Addr.add]
  simp [execOp, hop, ha.ev hx, Instr.sliceAt, Instr.sureAddr, run_underlying hu, Instr.sliceBounds, Instr.sliceBound, asIntOf, hs, e]
--@ rule slice l wl_slArrB
/-- a[:], of a variable -/
theorem wl_slArrB (hu : P.underlying t = some (.array n 5)) (hs : ∀ w, (sizeOf 5).run P w = .ok 1 w) (hx : fr.ev x = some (.pointer (some ⟨g, 0, none⟩))) (hB : Blk w g t' (B8 b))
    (hk : RdB w g (g + 1) (some ⟨g, 0, none⟩) b → WL P fn F N ks ops tg.tail l ((d, .slice (some ⟨g, 0, none⟩) n n) :: fr) w) (hg : onG ops fr gd = true := by rfl) (hd : Nat.blt d N = true := by rfl) :
    WL P fn F N ks ops tg (⟨some d, .slice t x none none none, ty, pos, aft, gd⟩ :: l) fr w :=
  wl_p (fun _ => o_slArrW hu hs hx) (hk hB.rdB) hg hd
/-- [n]byte(s) -/
theorem o_ldSlArr (ha' : ∀ w, (isAgg t).run P w = .ok true w) (hs : ∀ w, (sizeOf t).run P w = .ok n w) (hx : fr.ev x = some (.pointer A)) (hr : Rd w A b) (hl : b.length = n) (h0 : 0 < n) : OpV P N fr w (.load t x) ty (.agg (B8 b).toArray) w := by
  obtain ⟨k, o, rfl, hc⟩ := hr.2 (fun e => by have := congrArg List.length e; rw [B8_length, hl, List.length_nil] at this; omega)
  exact o_loadn (cs := B8 b) ha' (by rw [B8_length, hl]; exact hs) hx (fun i u hu => by rw [add_plain]; exact hc i u hu)
end
end Go.Proofs.YtahkeoegbjopfaaGreat
/-
  Literals of bytes that were strings. No function of the program is named here.
-/
namespace Go.Proofs.YtahkeoegbjopfaaGreat
set_option maxRecDepth 100000
open Go.RowKit
section
variable {P : Program} {fn : Func} {F : Ending → World → Prop} {N : Nat} {ks : List K} {ops : Array Oper} {tg : Tags} {l : List Oper} {fr : Fr} {w : World} {ty ty2 t : TypeId} {pos pos2 : String} {aft aft2 : Array Edge} {gd gd2 : Option (Nat × Bool)} {d d2 n : Nat}
theorem rdT_mark (w : World) (bs : List UInt8) (fr : Nat × Nat) : RdT (w.alloc (.cells (B8 bs).toArray 5 fr)) (some ⟨w.heap.size, 0, none⟩) bs := by
  refine ⟨⟨by simp [B8_length], fun _ => ⟨w.heap.size, 0, rfl, fun j v hj => ?_⟩⟩, fun k hk => ?_⟩
  · rw [Nat.zero_add, World.cell?_alloc_mark]
    simpa using hj
  · obtain rfl : w.heap.size = k := by simpa [blk] using hk
    exact ⟨(B8 bs).toArray, fr, by show (w.heap.push _)[w.heap.size]? = _; simp⟩
--@ rule buildSlice l wl_litC
theorem wl_litC {ps : Array (Nat × Operand)} {xs : List Operand} {vs : List Value} (bs : List UInt8) (T : U8 P t) (hs : ∀ w, (sizeOf 5).run P w = .ok 1 w) (hz : ∀ w, (zeroValue 5).run P w = .ok (.int .u8 0) w) (hxs : ps.toList.map Prod.snd = xs) (hx : fr.evs xs = some vs) (hv : vs = B8 bs) (hn : bs.length = n) (hps : ps = ((List.range' 0 n).zip xs).toArray) (hm : Nat.ble bs.length 1000000 = true)
    (hk : ∀ A w', RdT w' A bs → Below w.heap.size w w' → WL P fn F N ks ops tg.tail.tail l ((d2, .slice A n n) :: (d, .slice A n n) :: fr) w')
    (ht : tg.loud = true := by rfl) (ht2 : tg.tail.loud = true := by rfl) (hg : onG ops fr gd = true := by rfl) (hg2 : ∀ u, onG ops ((d, u) :: fr) gd2 = true := by intro _; rfl) (hd : Nat.blt d N = true := by rfl) (hd2 : Nat.blt d2 N = true := by rfl) (hq : tg.tail.calm = false := by rfl) :
    WL P fn F N ks ops tg (⟨some d, .buildSlice t n ps, ty, pos, aft, gd⟩ :: ⟨some d2, .convert t t (.tmp d), ty2, pos2, aft2, gd2⟩ :: l) fr w := by
  subst hps; subst hv; subst hn
  have hm' : bs.length ≤ 1000000 := by simpa using hm
  have hr := run_lit (P := P) (w := w) T.ht hs hz rfl (B8 bs) (B8_oneCell _) (by rw [B8_length]; omega)
  rw [B8_length] at hr
  refine wl_v (o_lit hx hr) ?_ ht hg hd (.inr (grown_of_below (below_alloc w _) _))
  have hv : Fr.ev ((d, .slice (some ⟨w.heap.size, 0, none⟩) bs.length bs.length) :: fr) (.tmp d) = some (.slice (some ⟨w.heap.size, 0, none⟩) bs.length bs.length) := by simp [Fr.ev, Fr.get]
  refine wl_v (w' := w.alloc (.cells (B8 bs).toArray 5 ((B8 bs).toArray.size, (B8 bs).toArray.size + 1))) (fun a ha o ho _ => ?_) (hk _ _ (rdT_mark w bs _) (below_alloc w _)) ht2 (hg2 _) hd2 (.inl hq)
  have := Lib.run_convert_bytes_const (P := P) w t 5 (B8 bs).toArray bs.length bs.length T.ht T.hu
  simp [execOp, ho, ha.ev hv, this]
end
end Go.Proofs.YtahkeoegbjopfaaGreat
/-
  A region that leaves the order of many operations open, each of which adds to the heap and changes nothing that was there: one step for each of them, from what it waits for; then what they all left. No function of the program is named here.
-/
namespace Go.Proofs.YtahkeoegbjopfaaGreat
set_option maxRecDepth 100000
open Go.RowKit
/-- An operation that changes the world, and what is read or reckoned behind it. ds: the slots (the newest first); pre: the places of the items that it waits for; φ: what the slots hold, in which world, and between which blocks what is new lies. -/
structure Item where
  k : Nat
  ps : List (Tag × Nat)
  ds : List Nat
  pre : List Nat
  φ : List Value → World → Nat → Nat → Prop
def Item.idx (it : Item) : List Nat := it.k :: it.ps.map Prod.snd
def bitsOf : List Nat → Nat
  | [] => 0
  | k :: r => Nat.lor (2 ^ k) (bitsOf r)
def Item.mask (it : Item) : Nat := bitsOf it.idx
def nthI : List Item → Nat → Option Item
  | [], _ => none
  | it :: _, 0 => some it
  | _ :: l, k + 1 => nthI l k
theorem nthI_mem : ∀ {l : List Item} {i : Nat} {it : Item}, nthI l i = some it → it ∈ l
  | _ :: _, 0, _, h => by injection h with h; subst h; simp
  | _ :: l, i + 1, _, h => List.mem_cons_of_mem _ (nthI_mem (l := l) (i := i) h)
theorem nthI_of_mem : ∀ {l : List Item} {it : Item}, it ∈ l → ∃ i, i < l.length ∧ nthI l i = some it
  | x :: l, it, h => by
    rcases List.mem_cons.1 h with h | h
    · subst h; exact ⟨0, by simp, rfl⟩
    · obtain ⟨i, h1, h2⟩ := nthI_of_mem h
      exact ⟨i + 1, by simpa using h1, h2⟩
theorem nthI_lt : ∀ {l : List Item} {i : Nat} {it : Item}, nthI l i = some it → i < l.length
  | _ :: _, 0, _, _ => by simp
  | _ :: l, i + 1, _, h => by have := nthI_lt (l := l) (i := i) h; simpa using this
theorem nthI_some : ∀ {l : List Item} {i : Nat}, i < l.length → ∃ it, nthI l i = some it
  | x :: _, 0, _ => ⟨x, rfl⟩
  | _ :: l, i + 1, h => nthI_some (l := l) (i := i) (by simpa using h)
theorem bitsOf_bit {j : Nat} : ∀ {l : List Nat}, (bitsOf l).testBit j = true ↔ j ∈ l
  | [] => by simp [bitsOf]
  | k :: r => by
    show (2 ^ k ||| bitsOf r).testBit j = true ↔ _
    rw [Nat.testBit_or, Bool.or_eq_true, bitsOf_bit (l := r), Nat.testBit_two_pow, List.mem_cons]
    constructor
    · rintro (h | h)
      · exact .inl (of_decide_eq_true h).symm
      · exact .inr h
    · rintro (h | h)
      · exact .inl (by simp [h])
      · exact .inr h
def apartAll : List (Nat × Nat) → Nat → Nat → Prop
  | [], _, _ => True
  | p :: r, lo, hi => (p.2 ≤ lo ∨ hi ≤ p.1) ∧ apartAll r lo hi
/-- What the items at the places ps left. -/
def given (its : List Item) (w : World) (B : Nat) : List Nat → List (Nat × Nat) → Fr → (Fr → Prop) → Prop
  | [], _, fr, K => K fr
  | p :: r, seen, fr, K => match nthI its p with
    | none => False
    | some it => ∀ vs lo hi, it.φ vs w lo hi → B ≤ lo → lo ≤ hi → hi ≤ w.heap.size → apartAll seen lo hi → given its w B r ((lo, hi) :: seen) (it.ds.zip vs ++ fr) K
def stables : List Item → Prop
  | [] => True
  | it :: r => (∀ vs w w' lo hi, it.φ vs w lo hi → Below w.heap.size w w' → it.φ vs w' lo hi) ∧ stables r
theorem stables_spec : ∀ {l : List Item}, stables l → ∀ it ∈ l, ∀ vs w w' lo hi, it.φ vs w lo hi → Below w.heap.size w w' → it.φ vs w' lo hi
  | _ :: _, h, it, hi => by
    rcases List.mem_cons.1 hi with e | e
    · subst e; exact h.1
    · exact stables_spec h.2 it e

/-! What is checked. -/
def meetN (a b : Nat) : Bool := !Nat.beq (Nat.land a b) 0
theorem meetN_spec {a b : Nat} (h : meetN a b = true) : ∃ i, a.testBit i = true ∧ b.testBit i = true := by
  unfold meetN at h
  refine Classical.byContradiction fun hn => ?_
  have e : Nat.land a b = 0 := Nat.eq_of_testBit_eq fun i => by
    show (a &&& b).testBit i = _
    rw [Nat.testBit_and, Nat.zero_testBit]
    cases h1 : a.testBit i with
    | false => rfl
    | true => cases h2 : b.testBit i with
      | false => rfl
      | true => exact absurd ⟨i, h1, h2⟩ hn
  rw [e] at h
  simp at h
def subN (a b : Nat) : Bool := Nat.beq (Nat.land a b) a
def preMask (its : List Item) : List Nat → Nat
  | [] => 0
  | p :: r => Nat.lor (match nthI its p with | some it => it.mask | none => 0) (preMask its r)
theorem preMask_bit {its : List Item} {i : Nat} : ∀ {ps : List Nat}, (preMask its ps).testBit i = true → ∃ p ∈ ps, ∃ it, nthI its p = some it ∧ i ∈ it.idx
  | p :: r, h => by
    have h' : ((match nthI its p with | some it => it.mask | none => 0) ||| preMask its r).testBit i = true := h
    rw [Nat.testBit_or, Bool.or_eq_true] at h'
    rcases h' with h' | h'
    · cases hp : nthI its p with
      | none => rw [hp] at h'; simp at h'
      | some it =>
        rw [hp] at h'
        exact ⟨p, by simp, it, hp, bitsOf_bit.1 h'⟩
    · obtain ⟨q, h1, it, h2, h3⟩ := preMask_bit h'
      exact ⟨q, by simp [h1], it, h2, h3⟩
  | [], h => by simp [preMask] at h
/-- The operations behind an item's first one. -/
def chkP (ops : Array Oper) (l : List Oper) (D A : List Nat) (L C : Nat) : List (Tag × Nat) → Nat → Bool
  | [], _ => true
  | (.p, k) :: ts, m => (!Nat.testBit L k && (rdyK D m k && freeAt ops l D m k)) && chkP ops l D A L C ts (m ||| 2 ^ k)
  | (.r, k) :: ts, m => (!Nat.testBit L k && (rdyK D m k && (freeAt ops l D m k && crossK L k (A.getD k 0) A 0))) && chkP ops l D A L C ts (m ||| 2 ^ k)
  | (.s, k) :: ts, m => (!Nat.testBit L k && (rdyK D m k && (freeAt ops l D m k && crossK (L ^^^ (L &&& C)) k (A.getD k 0) A 0))) && chkP ops l D A L C ts (m ||| 2 ^ k)
  | _ :: _, _ => false
theorem freeK_mono {ops : Array Oper} {oi : Oper} {m m' k : Nat} (hm : ∀ i, m.testBit i = true → m'.testBit i = true) : ∀ (l : List Oper) (D : List Nat) (j : Nat), freeK ops oi m k l D j = true → freeK ops oi m' k l D j = true
  | [], _, _, _ => by simp [freeK]
  | _ :: _, [], _, _ => by simp [freeK]
  | o :: l, d :: D, j, h => by
    simp only [freeK, Bool.and_eq_true, Bool.or_eq_true] at h ⊢
    refine ⟨?_, freeK_mono hm l D (j + 1) h.2⟩
    rcases h.1 with h | h | h
    · exact .inl h
    · exact .inr (.inl (hm _ h))
    · exact .inr (.inr h)
theorem freeAt_mono {ops : Array Oper} {l : List Oper} {D : List Nat} {m m' k : Nat} (hm : ∀ i, m.testBit i = true → m'.testBit i = true) (h : freeAt ops l D m k = true) : freeAt ops l D m' k = true := by
  unfold freeAt at h ⊢
  split at h
  · exact freeK_mono hm _ _ _ h
  · cases h
theorem rdyK_mono {D : List Nat} {m m' k : Nat} (hm : ∀ i, m.testBit i = true → m'.testBit i = true) (hk : m'.testBit k = false) (h : rdyK D m k = true) : rdyK D m' k = true := by
  unfold rdyK at h ⊢
  split at h
  · simp only [Bool.and_eq_true, Bool.not_eq_true'] at h ⊢
    exact ⟨hk, land_eq.2 fun i hi => hm i (land_eq.1 h.2 i hi)⟩
  · cases h
theorem bit_lor {m k j : Nat} : (m ||| 2 ^ k).testBit j = true ↔ m.testBit j = true ∨ k = j := by
  rw [Nat.testBit_or, Bool.or_eq_true, Nat.testBit_two_pow]; simp
def maskAfter : List (Tag × Nat) → Nat → Nat
  | [], m => m
  | p :: ts, m => maskAfter ts (m ||| 2 ^ p.2)
theorem maskAfter_bit {j : Nat} : ∀ {ts : List (Tag × Nat)} {m : Nat}, (maskAfter ts m).testBit j = true ↔ m.testBit j = true ∨ j ∈ ts.map Prod.snd
  | [], m => by simp [maskAfter]
  | p :: ts, m => by
    rw [maskAfter, maskAfter_bit (ts := ts), bit_lor, List.map_cons, List.mem_cons]
    constructor
    · rintro ((h | h) | h)
      · exact .inl h
      · exact .inr (.inl h.symm)
      · exact .inr (.inr h)
    · rintro (h | h | h)
      · exact .inl (.inl h)
      · exact .inl (.inr h.symm)
      · exact .inr h
theorem chk_of_chkP {ops : Array Oper} {l : List Oper} {D A : List Nat} {L C n T : Nat} : ∀ (ts : List (Tag × Nat)) (m m' : Nat), chkP ops l D A L C ts m = true → (∀ i, m.testBit i = true → m'.testBit i = true) → (∀ i, m'.testBit i = true → T.testBit i = true ∨ m.testBit i = true) → (∀ p ∈ ts, T.testBit p.2 = false) →
    chk ops l D A L C (ts ++ [(.f (maskAfter ts m') L C, n)]) m' = true
  | [], m, m', _, _, _, _ => by simp [chk, maskAfter]
  | (t, k) :: ts, m, m', h, hm, hm2, hT => by
    have hk0 : rdyK D m k = true → m'.testBit k = false := fun hr => by
      have h0 : m.testBit k = false := by
        unfold rdyK at hr
        split at hr
        · simp only [Bool.and_eq_true, Bool.not_eq_true'] at hr; exact hr.1
        · cases hr
      cases hb : m'.testBit k with
      | false => rfl
      | true =>
        rcases hm2 k hb with h1 | h1
        · rw [hT (t, k) (by simp)] at h1; cases h1
        · rw [h0] at h1; cases h1
    have rest : chkP ops l D A L C ts (m ||| 2 ^ k) = true → chk ops l D A L C (ts ++ [(.f (maskAfter ts (m' ||| 2 ^ k)) L C, n)]) (m' ||| 2 ^ k) = true := fun h2 =>
      chk_of_chkP ts _ _ h2 (fun i hi => by rw [bit_lor] at hi ⊢; exact hi.imp (hm i) id) (fun i hi => by
        rw [bit_lor] at hi ⊢
        rcases hi with hi | hi
        · rcases hm2 i hi with h1 | h1
          · exact .inl h1
          · exact .inr (.inl h1)
        · exact .inr (.inr hi)) (fun p hp => hT p (by simp [hp]))
    cases t with
    | p =>
      simp only [chkP, Bool.and_eq_true] at h
      obtain ⟨⟨h1, h2, h3⟩, h4⟩ := h
      simp only [List.cons_append, chk, maskAfter, Bool.and_eq_true]
      exact ⟨⟨h1, rdyK_mono hm (hk0 h2) h2, freeAt_mono hm h3⟩, rest h4⟩
    | r =>
      simp only [chkP, Bool.and_eq_true] at h
      obtain ⟨⟨h1, h2, h3, h5⟩, h4⟩ := h
      simp only [List.cons_append, chk, maskAfter, Bool.and_eq_true]
      exact ⟨⟨h1, rdyK_mono hm (hk0 h2) h2, freeAt_mono hm h3, h5⟩, rest h4⟩
    | s =>
      simp only [chkP, Bool.and_eq_true] at h
      obtain ⟨⟨h1, h2, h3, h5⟩, h4⟩ := h
      simp only [List.cons_append, chk, maskAfter, Bool.and_eq_true]
      exact ⟨⟨h1, rdyK_mono hm (hk0 h2) h2, freeAt_mono hm h3, h5⟩, rest h4⟩
    | l => simp [chkP] at h
    | c => simp [chkP] at h
    | f => simp [chkP] at h
    | g => simp [chkP] at h
theorem opsOf_ps {ops : Array Oper} {l : List Oper} {D A : List Nat} {L C n T : Nat} : ∀ (ts : List (Tag × Nat)) (m : Nat), chkP ops l D A L C ts m = true → opsOf ops (ts ++ [(.f T L C, n)]) = ts.map (fun p => ops[p.2]?) ∧ extra (ts ++ [(.f T L C, n)]) = n
  | [], _, _ => ⟨rfl, rfl⟩
  | (t, k) :: ts, m, h => by
    have ih := fun m h => opsOf_ps (ops := ops) (l := l) (D := D) (A := A) (L := L) (C := C) (n := n) (T := T) ts m h
    cases t with
    | p => simp only [chkP, Bool.and_eq_true] at h; have := ih _ h.2; exact ⟨by simp [opsOf, this.1], by simp [extra, this.2]⟩
    | r => simp only [chkP, Bool.and_eq_true] at h; have := ih _ h.2; exact ⟨by simp [opsOf, this.1], by simp [extra, this.2]⟩
    | s => simp only [chkP, Bool.and_eq_true] at h; have := ih _ h.2; exact ⟨by simp [opsOf, this.1], by simp [extra, this.2]⟩
    | l => simp [chkP] at h
    | c => simp [chkP] at h
    | f => simp [chkP] at h
    | g => simp [chkP] at h
def incrN : List Nat → Bool
  | [] => true
  | a :: r => r.all (fun b => Nat.blt a b) && incrN r
theorem incrN_spec : ∀ {l : List Nat}, incrN l = true → l.Pairwise (· < ·)
  | [], _ => .nil
  | a :: r, h => by
    simp only [incrN, Bool.and_eq_true, List.all_eq_true] at h
    exact List.pairwise_cons.2 ⟨fun b hb => by have := h.1 b hb; simpa using this, incrN_spec h.2⟩
def chkI (ops : Array Oper) (l : List Oper) (its : List Item) (D A : List Nat) (L C m : Nat) : List Item → Nat → Bool
  | [], _ => true
  | it :: r, i => (Nat.testBit L it.k && (it.pre.all (fun p => Nat.blt p i && meetN (A.getD it.k 0) (preMask its [p])) && (incrN it.pre && (rdyK D (m ||| preMask its it.pre) it.k && (it.idx.all (fun j => Nat.blt j l.length) && chkP ops l D A L C it.ps (m ||| preMask its it.pre ||| 2 ^ it.k)))))) && chkI ops l its D A L C m r (i + 1)
def disjN : List Item → Nat → Bool
  | [], _ => true
  | it :: r, m => !meetN it.mask m && disjN r (Nat.lor m it.mask)
def disjD : List Item → List Nat → Bool
  | [], _ => true
  | it :: r, ds => it.ds.all (fun d => !inN d ds) && disjD r (it.ds ++ ds)
def chkJ (its : List Item) (D A : List Nat) (m : Nat) : List Nat → Nat → Bool
  | [], _ => true
  | d :: r, j => (Nat.testBit m j || (its.any (fun it => Nat.beq it.k j || (inN j (it.ps.map Prod.snd) && meetN d it.mask)) || its.all (fun it => meetN (A.getD j 0) it.mask && !Nat.testBit it.mask j))) && chkJ its D A m r (j + 1)
def fuelOf (T : Nat) : List Item → Nat
  | [] => 0
  | it :: r => (bif Nat.testBit T it.k then 0 else 1 + it.ps.length) + fuelOf T r
def allMask (m : Nat) : List Item → Nat
  | [] => m
  | it :: r => allMask (Nat.lor m it.mask) r
def chkC (ops : List Oper) (its : List Item) (all : List Nat) (D A : List Nat) (L C m n : Nat) (fr : Fr) (ordR : List Nat) (tsR : List (Tag × Nat)) : Bool :=
  chkI ops.toArray ops its D A L C m its 0 && (disjN its m && (disjD its (fr.map Prod.fst) && (chkJ its D A m D 0 && (incrN all && (all.all (fun p => Nat.blt p its.length) &&
    (Nat.beq n (((inOrder ops ordR).length + extra tsR) + fuelOf m its) && chk ops.toArray ops D A L C tsR (allMask m its)))))))

/-! Frames. -/
theorem Rep.append {N : Nat} {a : Act} {f1 f2 : Fr} (h1 : Rep N a f1) (h2 : Rep N a f2) : Rep N a (f1 ++ f2) := ⟨h1.size, h1.defers, fun t v h => by
  rw [Fr.get_append] at h
  cases hc : f1.get t with
  | some u => rw [hc] at h; exact h1.get t v (hc.trans h)
  | none => rw [hc] at h; exact h2.get t v h⟩
/-- All slots as they are. -/
theorem dump_ex {N : Nat} {a : Act} {fr : Fr} (h : Rep N a fr) : ∃ fo : Fr, Rep N a fo ∧ ∀ t v, a.tmps[t]? = some v → fo.get t = some v := by
  have key : ∀ (k : Nat), ∃ fo : Fr, (∀ t v, fo.get t = some v → a.tmps[t]? = some v) ∧ ∀ t v, t < k → a.tmps[t]? = some v → fo.get t = some v := by
    intro k
    induction k with
    | zero => exact ⟨[], (fun t v h => by cases h), fun t v h => absurd h (Nat.not_lt_zero _)⟩
    | succ k ih =>
      obtain ⟨fo, h1, h2⟩ := ih
      cases hk : a.tmps[k]? with
      | none =>
        refine ⟨fo, h1, fun t v ht hv => ?_⟩
        rcases Nat.lt_or_ge t k with h | h
        · exact h2 t v h hv
        · obtain rfl : t = k := by omega
          rw [hk] at hv; cases hv
      | some u =>
        refine ⟨(k, u) :: fo, fun t v hv => ?_, fun t v ht hv => ?_⟩
        · rw [Fr.get_cons] at hv
          by_cases e : k = t
          · subst e; rw [if_pos rfl] at hv; rw [hk]; exact hv
          · rw [if_neg e] at hv; exact h1 t v hv
        · rw [Fr.get_cons]
          by_cases e : k = t
          · subst e; rw [if_pos rfl, ← hk]; exact hv
          · rw [if_neg e]; exact h2 t v (by omega) hv
  obtain ⟨fo, h1, h2⟩ := key a.tmps.size
  exact ⟨fo, ⟨h.size, h.defers, h1⟩, fun t v hv => h2 t v (Array.getElem?_eq_some_iff.1 hv).1 hv⟩
theorem zip_get {t : Nat} {v : Value} : ∀ {ds : List Nat} {vs : List Value}, Fr.get (ds.zip vs) t = some v → t ∈ ds
  | [], _, h => by simp [Fr.get] at h
  | _ :: _, [], h => by simp [Fr.get] at h
  | d :: ds, u :: vs, h => by
    rw [List.zip_cons_cons, Fr.get_cons] at h
    by_cases e : d = t
    · subst e; simp
    · rw [if_neg e] at h; exact List.mem_cons_of_mem _ (zip_get h)
section
variable {its : List Item} {w : World} {B N : Nat} {a : Act} {lo hi : Nat → Nat} {vv : Nat → List Value}
theorem apartAll_of {l h : Nat} : ∀ {seen : List (Nat × Nat)}, (∀ q ∈ seen, q.2 ≤ l ∨ h ≤ q.1) → apartAll seen l h
  | [], _ => trivial
  | q :: r, hq => ⟨hq q (by simp), apartAll_of (fun q' h' => hq q' (by simp [h']))⟩
theorem given_elim : ∀ (ps : List Nat) (seen : List (Nat × Nat)) (fr : Fr) (K : Fr → Prop), Rep N a fr →
    (∀ p ∈ ps, ∃ it, nthI its p = some it ∧ Rep N a (it.ds.zip (vv p)) ∧ it.φ (vv p) w (lo p) (hi p) ∧ B ≤ lo p ∧ lo p ≤ hi p ∧ hi p ≤ w.heap.size) →
    ps.Pairwise (fun p q => hi p ≤ lo q ∨ hi q ≤ lo p) → (∀ q ∈ seen, ∀ p ∈ ps, q.2 ≤ lo p ∨ hi p ≤ q.1) → given its w B ps seen fr K → ∃ fr', Rep N a fr' ∧ (∀ t, fr'.get t = none → fr.get t = none) ∧ K fr'
  | [], _, fr, K, hr, _, _, _, h => ⟨fr, hr, fun _ h => h, h⟩
  | p :: r, seen, fr, K, hr, hp, hpw, hs, h => by
    obtain ⟨it, h1, h2, h3, h4, h5, h6⟩ := hp p (by simp)
    simp only [given, h1] at h
    have h7 := h (vv p) (lo p) (hi p) h3 h4 h5 h6 (apartAll_of (fun q hq => hs q hq p (by simp)))
    obtain ⟨hpw1, hpw2⟩ := List.pairwise_cons.1 hpw
    obtain ⟨fr', k1, k2, k3⟩ := given_elim r ((lo p, hi p) :: seen) _ K (h2.append hr) (fun q hq => hp q (by simp [hq])) hpw2 (fun q hq p' hp' => by
      rcases List.mem_cons.1 hq with e | e
      · subst e; exact hpw1 p' hp'
      · exact hs q e p' (by simp [hp'])) h7
    refine ⟨fr', k1, fun t ht => ?_, k3⟩
    have := k2 t ht
    rw [Fr.get_append] at this
    cases hc : Fr.get (it.ds.zip (vv p)) t with
    | some u => rw [hc] at this; cases this
    | none => rw [hc] at this; exact this
end
theorem allMask_bit {j : Nat} : ∀ {its : List Item} {m : Nat}, (allMask m its).testBit j = true ↔ m.testBit j = true ∨ ∃ it ∈ its, j ∈ it.idx
  | [], m => by simp [allMask]
  | it :: r, m => by
    rw [allMask, allMask_bit (its := r), show (Nat.lor m it.mask).testBit j = (m.testBit j || it.mask.testBit j) from Nat.testBit_or .., Bool.or_eq_true, show it.mask.testBit j = true ↔ j ∈ it.idx from bitsOf_bit]
    constructor
    · rintro ((h | h) | ⟨x, h1, h2⟩)
      · exact .inl h
      · exact .inr ⟨it, by simp, h⟩
      · exact .inr ⟨x, by simp [h1], h2⟩
    · rintro (h | ⟨x, h1, h2⟩)
      · exact .inl (.inl h)
      · rcases List.mem_cons.1 h1 with e | e
        · subst e; exact .inl (.inr h2)
        · exact .inr ⟨x, e, h2⟩
theorem disjN_spec : ∀ {its : List Item} {m : Nat}, disjN its m = true → (∀ it ∈ its, ∀ j ∈ it.idx, m.testBit j = false) ∧ ∀ i i' it it', nthI its i = some it → nthI its i' = some it' → i ≠ i' → ∀ j ∈ it.idx, j ∉ it'.idx
  | [], m, _ => ⟨fun _ h => absurd h (by simp), fun i _ _ _ h => by cases i <;> cases h⟩
  | x :: r, m, h => by
    simp only [disjN, Bool.and_eq_true, Bool.not_eq_true'] at h
    obtain ⟨h1, h2⟩ := h
    obtain ⟨k1, k2⟩ := disjN_spec h2
    have kx : ∀ j ∈ x.idx, m.testBit j = false := fun j hj => by
      cases hb : m.testBit j with
      | false => rfl
      | true =>
        have : meetN x.mask m = true := by
          unfold meetN
          simp only [Bool.not_eq_true']
          cases hz : Nat.beq (Nat.land x.mask m) 0 with
          | false => rfl
          | true =>
            have e := Nat.eq_of_beq_eq_true hz
            have : (x.mask &&& m).testBit j = true := by rw [Nat.testBit_and, hb, show x.mask.testBit j = true from bitsOf_bit.2 hj]; rfl
            rw [show x.mask &&& m = 0 from e] at this
            simp at this
        rw [h1] at this; cases this
    have kr : ∀ it ∈ r, ∀ j ∈ it.idx, m.testBit j = false ∧ j ∉ x.idx := fun it hit j hj => by
      have := k1 it hit j hj
      rw [show (Nat.lor m x.mask).testBit j = (m.testBit j || x.mask.testBit j) from Nat.testBit_or .., Bool.or_eq_false_iff] at this
      refine ⟨this.1, fun hx => ?_⟩
      have h3 : x.mask.testBit j = true := bitsOf_bit.2 hx
      rw [this.2] at h3; cases h3
    refine ⟨fun it hit j hj => ?_, fun i i' it it' hi hi' hne j hj hj' => ?_⟩
    · rcases List.mem_cons.1 hit with e | e
      · subst e; exact kx j hj
      · exact (kr it e j hj).1
    · cases i with
      | zero =>
        injection hi with hi; subst hi
        cases i' with
        | zero => exact hne rfl
        | succ i' => exact (kr it' (nthI_mem (l := r) (i := i') hi') j hj').2 hj
      | succ i =>
        cases i' with
        | zero => injection hi' with hi'; subst hi'; exact (kr it (nthI_mem (l := r) (i := i) hi) j hj).2 hj'
        | succ i' => exact k2 i i' it it' hi hi' (by omega) j hj hj'
theorem inN_iff {t : Nat} : ∀ {l : List Nat}, inN t l = true ↔ t ∈ l
  | [] => by simp [inN]
  | a :: l => by
    rw [List.mem_cons, ← inN_iff (l := l), inN]
    cases hb : Nat.beq a t with
    | true => simp [(Nat.eq_of_beq_eq_true hb).symm]
    | false => simp [show t ≠ a from fun e => by subst e; simp at hb]
theorem disjD_spec : ∀ {its : List Item} {ds : List Nat}, disjD its ds = true → (∀ it ∈ its, ∀ d ∈ it.ds, d ∉ ds) ∧ ∀ i i' it it', nthI its i = some it → nthI its i' = some it' → i ≠ i' → ∀ d ∈ it.ds, d ∉ it'.ds
  | [], _, _ => ⟨fun _ h => absurd h (by simp), fun i _ _ _ h => by cases i <;> cases h⟩
  | x :: r, ds, h => by
    simp only [disjD, Bool.and_eq_true, List.all_eq_true, Bool.not_eq_true'] at h
    obtain ⟨h1, h2⟩ := h
    obtain ⟨k1, k2⟩ := disjD_spec h2
    have kx : ∀ d ∈ x.ds, d ∉ ds := fun d hd hm => by have := h1 d hd; rw [inN_iff.2 hm] at this; cases this
    have kr : ∀ it ∈ r, ∀ d ∈ it.ds, d ∉ x.ds ∧ d ∉ ds := fun it hit d hd => by
      have := k1 it hit d hd
      rw [List.mem_append, not_or] at this
      exact this
    refine ⟨fun it hit d hd => ?_, fun i i' it it' hi hi' hne d hd hd' => ?_⟩
    · rcases List.mem_cons.1 hit with e | e
      · subst e; exact kx d hd
      · exact (kr it e d hd).2
    · cases i with
      | zero =>
        injection hi with hi; subst hi
        cases i' with
        | zero => exact hne rfl
        | succ i' => exact (kr it' (nthI_mem (l := r) (i := i') hi') d hd').1 hd
      | succ i =>
        cases i' with
        | zero => injection hi' with hi'; subst hi'; exact (kr it (nthI_mem (l := r) (i := i) hi) d hd).1 hd'
        | succ i' => exact k2 i i' it it' hi hi' (by omega) d hd hd'
theorem nthOp_eq : ∀ (l : List Oper) (k : Nat), nthOp l k = l[k]?
  | [], _ => rfl
  | _ :: _, 0 => rfl
  | _ :: l, k + 1 => by rw [nthOp, nthOp_eq l k]; simp
theorem inOrder_map {ops : List Oper} : ∀ {ks : List Nat}, (∀ j ∈ ks, j < ops.length) → (inOrder ops ks).map some = ks.map (fun k => ops.toArray[k]?)
  | [], _ => rfl
  | k :: ks, h => by
    have hk : k < ops.length := h k (by simp)
    rw [inOrder, nthOp_eq, List.getElem?_eq_getElem hk]
    simp only [List.map_cons]
    rw [inOrder_map (fun j hj => h j (by simp [hj]))]
    simp [hk]
theorem fuel_step {T T2 : Nat} : ∀ {its : List Item} {i : Nat} {it : Item}, nthI its i = some it → T.testBit it.k = false → T2.testBit it.k = true → (∀ i' it', nthI its i' = some it' → i' ≠ i → T2.testBit it'.k = T.testBit it'.k) → fuelOf T its = fuelOf T2 its + (1 + it.ps.length)
  | x :: r, 0, it, h, h1, h2, h3 => by
    injection h with h; subst h
    have hr : ∀ (r : List Item), (∀ y ∈ r, T2.testBit y.k = T.testBit y.k) → fuelOf T r = fuelOf T2 r := fun r hy => by
      induction r with
      | nil => rfl
      | cons y r ih => rw [fuelOf, fuelOf, hy y (by simp), ih (fun z hz => hy z (by simp [hz]))]
    rw [fuelOf, fuelOf, h1, h2, hr r (fun y hy => by obtain ⟨j, _, hj⟩ := nthI_of_mem hy; exact h3 (j + 1) y hj (by omega))]
    simp only [cond_true, cond_false]; omega
  | x :: r, i + 1, it, h, h1, h2, h3 => by
    have := fuel_step (its := r) (i := i) h h1 h2 (fun i' it' hi' hne => h3 (i' + 1) it' hi' (by omega))
    rw [fuelOf, fuelOf, this, h3 0 x rfl (by omega)]; omega
theorem fuel_zero {T : Nat} : ∀ {its : List Item}, (∀ it ∈ its, T.testBit it.k = true) → fuelOf T its = 0
  | [], _ => rfl
  | x :: r, h => by rw [fuelOf, h x (by simp), fuel_zero (fun y hy => h y (by simp [hy]))]; rfl
theorem fuel_same {T T2 : Nat} : ∀ {its : List Item}, (∀ it ∈ its, T2.testBit it.k = T.testBit it.k) → fuelOf T2 its = fuelOf T its
  | [], _ => rfl
  | x :: r, h => by rw [fuelOf, fuelOf, h x (by simp), fuel_same (fun y hy => h y (by simp [hy]))]

theorem chkI_spec {ops : Array Oper} {l : List Oper} {its : List Item} {D A : List Nat} {L C m : Nat} : ∀ {r : List Item} {i0 : Nat}, chkI ops l its D A L C m r i0 = true → ∀ i it, nthI r i = some it →
    L.testBit it.k = true ∧ (∀ p ∈ it.pre, p < i0 + i ∧ ∃ j, (A.getD it.k 0).testBit j = true ∧ ∃ x, nthI its p = some x ∧ j ∈ x.idx) ∧ it.pre.Pairwise (· < ·) ∧ rdyK D (m ||| preMask its it.pre) it.k = true ∧ (∀ j ∈ it.idx, j < l.length) ∧ chkP ops l D A L C it.ps (m ||| preMask its it.pre ||| 2 ^ it.k) = true
  | x :: r, i0, h, i, it, hi => by
    simp only [chkI, Bool.and_eq_true, List.all_eq_true] at h
    obtain ⟨⟨h1, h2, h3, h4, h5, h6⟩, h7⟩ := h
    cases i with
    | zero =>
      injection hi with hi; subst hi
      refine ⟨h1, fun p hp => ?_, incrN_spec h3, h4, fun j hj => by have := h5 j hj; simpa using this, h6⟩
      obtain ⟨h8, h9⟩ := h2 p hp
      obtain ⟨j, k1, k2⟩ := meetN_spec h9
      obtain ⟨q, hq, y, hy, hj⟩ := preMask_bit k2
      rw [List.mem_singleton] at hq; subst hq
      exact ⟨by simpa using h8, j, k1, y, hy, hj⟩
    | succ i =>
      have := chkI_spec h7 i it hi
      refine ⟨this.1, fun p hp => ?_, this.2.2⟩
      obtain ⟨k1, k2⟩ := this.2.1 p hp
      exact ⟨by omega, k2⟩
theorem chkJ_spec {its : List Item} {D A : List Nat} {m : Nat} : ∀ {r : List Nat} {j0 : Nat}, chkJ its D A m r j0 = true → ∀ j d, r[j]? = some d →
    m.testBit (j0 + j) = true ∨ (∃ it ∈ its, it.k = j0 + j ∨ (j0 + j ∈ it.ps.map Prod.snd ∧ ∃ b, d.testBit b = true ∧ b ∈ it.idx)) ∨ ∀ it ∈ its, (∃ b, (A.getD (j0 + j) 0).testBit b = true ∧ b ∈ it.idx) ∧ j0 + j ∉ it.idx
  | [], _, _, j, d, hd => by simp at hd
  | d0 :: r, j0, h, j, d, hd => by
    simp only [chkJ, Bool.and_eq_true, Bool.or_eq_true, List.any_eq_true, List.all_eq_true] at h
    cases j with
    | zero =>
      simp only [List.getElem?_cons_zero, Option.some.injEq] at hd
      subst hd
      rw [Nat.add_zero]
      rcases h.1 with h1 | ⟨it, h1, h2⟩ | h1
      · exact .inl h1
      · refine .inr (.inl ⟨it, h1, ?_⟩)
        rcases h2 with h2 | ⟨h2, h3⟩
        · exact .inl (Nat.eq_of_beq_eq_true h2)
        · obtain ⟨b, k1, k2⟩ := meetN_spec h3
          exact .inr ⟨inN_iff.1 h2, b, k1, bitsOf_bit.1 k2⟩
      · refine .inr (.inr fun it hit => ?_)
        have h2 := h1 it hit
        simp only [Bool.and_eq_true, Bool.not_eq_true'] at h2
        obtain ⟨b, k1, k2⟩ := meetN_spec h2.1
        refine ⟨⟨b, k1, bitsOf_bit.1 k2⟩, fun hm => ?_⟩
        rw [show it.mask.testBit j0 = true from bitsOf_bit.2 hm] at h2
        cases h2.2
    | succ j =>
      have := chkJ_spec h.2 j d (by simpa using hd)
      rw [show j0 + (j + 1) = j0 + 1 + j by omega]
      exact this
/-- Where the operations at its have come to (those whose bits are in T). -/
structure ConcSt (its : List Item) (N : Nat) (fr : Fr) (w0 : World) (m T : Nat) (a : Act) (w : World) (lo hi : Nat → Nat) (vv : Nat → List Value) : Prop where
  rep : Rep N a fr
  bel : Below w0.heap.size w0 w
  low : ∀ j, m.testBit j = true → T.testBit j = true
  up : ∀ j, T.testBit j = true → m.testBit j = true ∨ ∃ it ∈ its, j ∈ it.idx
  whole : ∀ it ∈ its, ∀ j ∈ it.idx, T.testBit j = T.testBit it.k
  f : ∀ i it, nthI its i = some it → T.testBit it.k = true → Rep N a (it.ds.zip (vv i)) ∧ it.φ (vv i) w (lo i) (hi i) ∧ w0.heap.size ≤ lo i ∧ lo i ≤ hi i ∧ hi i ≤ w.heap.size
  ap : ∀ i j it it', nthI its i = some it → nthI its j = some it' → T.testBit it.k = true → T.testBit it'.k = true → i ≠ j → hi i ≤ lo j ∨ hi j ≤ lo i
section
variable {P : Program} {fn : Func} {F : Ending → World → Prop} {N : Nat} {ks : List K} {ops : List Oper} {fr : Fr} {w : World} {row : Rw} {L C : Nat}
/-- The step of an item: what it waits for is there; others may have come in between. -/
def stepOf (P : Program) (fn : Func) (F : Ending → World → Prop) (N : Nat) (ks : List K) (ops : List Oper) (fr : Fr) (w : World) (row : Rw) (L C : Nat) (its : List Item) (it : Item) : Prop :=
  ∀ (w' : World), Below w.heap.size w w' → ∀ (fo : Fr) (T T2 n2 : Nat), given its w' w.heap.size it.pre [] (fr ++ fo) fun fr' =>
    (∀ (vs : List Value) (w'' : World), it.φ vs w'' w'.heap.size w''.heap.size → Below w'.heap.size w' w'' → WL P fn F N ks ops.toArray (some (row, [(.f T2 L C, n2)])) [] (it.ds.zip vs ++ fr') w'') →
    WL P fn F N ks ops.toArray (some (row, (.g T L C, it.k) :: (it.ps ++ [(.f T2 L C, n2)]))) (inOrder ops it.idx) fr' w'
def stepsOf (P : Program) (fn : Func) (F : Ending → World → Prop) (N : Nat) (ks : List K) (ops : List Oper) (fr : Fr) (w : World) (row : Rw) (L C : Nat) (its : List Item) : List Item → Prop
  | [] => True
  | it :: r => stepOf P fn F N ks ops fr w row L C its it ∧ stepsOf P fn F N ks ops fr w row L C its r
theorem stepsOf_spec {its : List Item} : ∀ {r : List Item}, stepsOf P fn F N ks ops fr w row L C its r → ∀ it ∈ r, stepOf P fn F N ks ops fr w row L C its it
  | _ :: _, h, it, hi => by
    rcases List.mem_cons.1 hi with e | e
    · subst e; exact h.1
    · exact stepsOf_spec h.2 it e
theorem wl_conc {m n : Nat} (its : List Item) (all D A ordR : List Nat) (tsR : List (Tag × Nat)) (hD : ops.map (dmask .any) = D) (hA : ancs .any ops [] = A) (hc : chkC ops its all D A L C m n fr ordR tsR = true)
    (hlR : (inOrder ops ordR).map some = opsOf ops.toArray tsR) (hst : stables its) (hstep : stepsOf P fn F N ks ops fr w row L C its its)
    (hend : ∀ w', Below w.heap.size w w' → given its w' w.heap.size all [] fr fun fr' => WL P fn F N ks ops.toArray (some (row, tsR)) (inOrder ops ordR) fr' w') :
    WL P fn F N ks ops.toArray (some (row, [(.f m L C, n)])) [] fr w := by
  simp only [chkC, Bool.and_eq_true, List.all_eq_true] at hc
  obtain ⟨c1, c2, c3, c4, c5, c6, c8, c9⟩ := hc
  have hI := fun i it hi => chkI_spec c1 i it hi
  have hJ := fun j d hd => chkJ_spec c4 j d hd
  obtain ⟨d1, d2⟩ := disjN_spec c2
  obtain ⟨e1, e2⟩ := disjD_spec c3
  have hstab := stables_spec hst
  have hsteps := stepsOf_spec hstep
  obtain ⟨base, hbase⟩ : ∃ b, (inOrder ops ordR).length + extra tsR = b := ⟨_, rfl⟩
  have hn := Nat.eq_of_beq_eq_true c8
  rw [hbase] at hn
  subst hn
  have hfr : ∀ it ∈ its, ∀ d ∈ it.ds, fr.get d = none := fun it hit d hd => by
    refine (Fr.get_none_iff fr d).2 ?_
    cases hb : inN d (fr.map Prod.fst) with
    | false => rfl
    | true => exact absurd (inN_iff.1 hb) (e1 it hit d hd)
  have main : ∀ (f T : Nat) (a : Act) (w' : World) (lo hi : Nat → Nat) (vv : Nat → List Value), f = fuelOf T its → ConcSt its N fr w m T a w' lo hi vv → Left P (kpost P fn F ks) ops.toArray (some (row, [(.f T L C, base + f)])) [] a w' := by
    intro f
    induction f using Nat.strongRecOn with
    | _ f ih =>
      intro T a w' lo hi vv hf hS
      intro D' A' L' C' listed m' hm _ hchk
      unfold chk at hchk
      simp only [Bool.and_eq_true] at hchk
      obtain ⟨hm1, hL1, hC1⟩ := hchk
      obtain rfl := Nat.eq_of_beq_eq_true hm1
      obtain rfl := Nat.eq_of_beq_eq_true hL1
      obtain rfl := Nat.eq_of_beq_eq_true hC1
      obtain rfl : D' = D := by rw [hm.D, ← hD]
      obtain rfl : A' = A := by rw [hm.A, ← hA]
      show wpMix P .any ops.toArray _ _ _ row (0 + (base + f)) listed a w'
      rw [Nat.zero_add]
      have hbefore : ∀ j i, (A'.getD j 0).testBit i = true → Before .any ops.toArray i j := by
        rw [hm.A]
        exact ancs_spec ops.toArray.toList [] (fun j => by simp) (fun j i hb => by simp at hb)
      -- what is ahead of a ready operation is through
      have hahead : ∀ j ∈ Region.ready .any ops.toArray listed, ∀ b, (A'.getD j 0).testBit b = true → b = j ∨ m'.testBit b = true := fun j hj b hb => by
        by_cases e : b = j
        · exact .inl e
        · refine .inr ?_
          have hlt : j < listed.size := by
            have h0 := (mem_ready.1 hj).1
            rcases Nat.lt_or_ge j listed.size with h | h
            · exact h
            · simp [Array.getElem?_eq_none h] at h0
          have h1 := hbefore j b hb _ (hm.closed.set hj) (by simp [hlt])
          rw [getD_set_ne false (Ne.symm e)] at h1
          rw [← hm.bits]; exact h1
      by_cases hall : ∀ it ∈ its, m'.testBit it.k = true
      · -- all through
        have hf0 : f = 0 := by rw [hf, fuel_zero hall]
        subst hf0
        have hT : m' = allMask m its := Nat.eq_of_testBit_eq fun j => by
          cases h1 : m'.testBit j with
          | true => exact (allMask_bit.2 (hS.up j h1)).symm
          | false =>
            cases h2 : (allMask m its).testBit j with
            | false => rfl
            | true =>
              rcases allMask_bit.1 h2 with h3 | ⟨it, h3, h4⟩
              · rw [hS.low j h3] at h1; cases h1
              · rw [hS.whole it h3 j h4, hall it h3] at h1; cases h1
        have hpos : ∀ p ∈ all, ∃ it, nthI its p = some it := fun p hp => by
          have hlt : p < its.length := by have := c6 p hp; simpa using this
          exact nthI_some hlt
        obtain ⟨fr', k1, _, k2⟩ := given_elim (its := its) (lo := lo) (hi := hi) (vv := vv) all [] fr _ hS.rep (fun p hp => by
          obtain ⟨it, hit⟩ := hpos p hp
          obtain ⟨h1, h2, h3, h4, h5⟩ := hS.f p it hit (hall it (nthI_mem hit))
          exact ⟨it, hit, h1, h2, h3, h4, h5⟩) (List.Pairwise.imp_of_mem (fun {p q} hp hq hpq => by
            obtain ⟨it, hit⟩ := hpos p hp
            obtain ⟨it', hit'⟩ := hpos q hq
            exact hS.ap p q it it' hit hit' (hall it (nthI_mem hit)) (hall it' (nthI_mem hit')) (by omega)) (incrN_spec c5)) (fun q hq => by cases hq) (hend w' hS.bel)
        have := left_elim (k2 a k1) hm hlR (by rw [hT]; exact c9)
        rw [hbase] at this
        simpa using this
      · -- the first item that is left is ready
        obtain ⟨i0, it0, hi0, hu0, hmin⟩ : ∃ i it, nthI its i = some it ∧ m'.testBit it.k = false ∧ ∀ j, j < i → ∀ x, nthI its j = some x → m'.testBit x.k = true := by
          refine Classical.byContradiction fun hno => hall fun it hit => ?_
          obtain ⟨i, _, hi'⟩ := nthI_of_mem hit
          have key : ∀ i it, nthI its i = some it → m'.testBit it.k = true := by
            intro i
            induction i using Nat.strongRecOn with
            | _ i ihi =>
              intro it hit
              cases hb : m'.testBit it.k with
              | true => rfl
              | false => exact absurd ⟨i, it, hit, hb, fun j hj x hx => ihi j hj x hx⟩ hno
          exact key i it hi'
        have hsub : ∀ it, it ∈ its → (∀ p ∈ it.pre, ∀ x, nthI its p = some x → m'.testBit x.k = true) → ∀ j, (m ||| preMask its it.pre).testBit j = true → m'.testBit j = true := fun it hit hp j hj => by
          rw [Nat.testBit_or, Bool.or_eq_true] at hj
          rcases hj with hj | hj
          · exact hS.low j hj
          · obtain ⟨p, h1, x, h2, h3⟩ := preMask_bit hj
            rw [hS.whole x (nthI_mem h2) j h3]
            exact hp p h1 x h2
        have hrdy0 : it0.k ∈ Region.ready .any ops.toArray listed := hm.ready (rdyK_mono (hsub it0 (nthI_mem hi0) fun p hp x hx => hmin p (by have := ((hI i0 it0 hi0).2.1 p hp).1; omega) x hx) hu0 (hI i0 it0 hi0).2.2.2.1)
        obtain ⟨f', hf'⟩ : ∃ f', f = f' + 1 := by
          have := fuel_step (T := m') (T2 := m' ||| it0.mask) hi0 hu0 (by rw [Nat.testBit_or, show it0.mask.testBit it0.k = true from bitsOf_bit.2 (by simp [Item.idx])]; simp) (fun i' it' hi' hne => by
            rw [Nat.testBit_or]
            cases hb : it0.mask.testBit it'.k with
            | false => simp
            | true => exact absurd (bitsOf_bit.1 hb) (d2 i' i0 it' it0 hi' hi0 hne it'.k (by simp [Item.idx])))
          exact ⟨fuelOf (m' ||| it0.mask) its + it0.ps.length, by omega⟩
        rw [hf', ← Nat.add_assoc]
        refine ⟨fun h => (by rw [h] at hrdy0; cases hrdy0), fun j hj => ?_⟩
        -- which one it is
        obtain ⟨hjun, oj, hoj, hjall⟩ := mem_ready.1 hj
        have hjlt : j < ops.toArray.size := (Array.getElem?_eq_some_iff.1 hoj).1
        have hju : m'.testBit j = false := by rw [← hm.getD hjlt]; exact hjun
        have hDj := hm.dAt hoj
        obtain ⟨i, it, hi', rfl⟩ : ∃ i it, nthI its i = some it ∧ it.k = j := by
          rcases hJ j _ hDj with h1 | ⟨it, h1, h2⟩ | h1
          · rw [Nat.zero_add] at h1; rw [hS.low j h1] at hju; cases hju
          · obtain ⟨i, _, hi'⟩ := nthI_of_mem h1
            rw [Nat.zero_add] at h2
            rcases h2 with h2 | ⟨h2, b, h3, h4⟩
            · exact ⟨i, it, hi', h2⟩
            · exfalso
              have h5 : m'.testBit b = true := by
                obtain ⟨e, he, hb, rfl⟩ := dmask_bit.1 h3
                rw [← hm.bits]; exact hjall e he hb
              have h6 := hS.whole it h1 b h4
              have h7 := hS.whole it h1 j (by simp [Item.idx, h2])
              rw [h5] at h6; rw [← h6, hju] at h7; cases h7
          · exfalso
            rw [Nat.zero_add] at h1
            obtain ⟨⟨b, h2, h3⟩, h5⟩ := h1 it0 (nthI_mem hi0)
            rcases hahead j hj b h2 with h4 | h4
            · subst h4; exact h5 h3
            · rw [hS.whole it0 (nthI_mem hi0) b h3, hu0] at h4; cases h4
        obtain ⟨q1, q2, q3, q4, q5, q6⟩ := hI i it hi'
        have hit := nthI_mem hi'
        rw [if_pos q1]
        have hpre : ∀ p ∈ it.pre, ∃ x, nthI its p = some x ∧ m'.testBit x.k = true := fun p hp => by
          obtain ⟨h1, b, h2, x, h3, h4⟩ := q2 p hp
          refine ⟨x, h3, ?_⟩
          rcases hahead it.k hj b h2 with h5 | h5
          · subst h5; exact absurd h4 (d2 i p it x hi' h3 (by omega) _ (by simp [Item.idx]))
          · rw [← hS.whole x (nthI_mem h3) b h4]; exact h5
        have hsb := hsub it hit (fun p hp x hx => by
          obtain ⟨y, h1, h2⟩ := hpre p hp
          rw [hx] at h1; injection h1 with h1; rw [h1]; exact h2)
        obtain ⟨fo, hfo, hfo2⟩ := dump_ex hS.rep
        obtain ⟨T2, hT2⟩ : ∃ T2, maskAfter it.ps (m' ||| 2 ^ it.k) = T2 := ⟨_, rfl⟩
        have hT2b : ∀ j, T2.testBit j = true ↔ m'.testBit j = true ∨ j ∈ it.idx := fun j => by
          rw [← hT2, maskAfter_bit, bit_lor, Item.idx, List.mem_cons]
          constructor
          · rintro ((h | h) | h)
            · exact .inl h
            · exact .inr (.inl h.symm)
            · exact .inr (.inr h)
          · rintro (h | h | h)
            · exact .inl (.inl h)
            · exact .inl (.inr h.symm)
            · exact .inr h
        have hT2k : T2.testBit it.k = true := (hT2b _).2 (.inr (by simp [Item.idx]))
        have hT2o : ∀ i' it', nthI its i' = some it' → i' ≠ i → ∀ j ∈ it'.idx, T2.testBit j = m'.testBit j := fun i' it' hi2 hne j hj => by
          cases hb : m'.testBit j with
          | true => exact (hT2b j).2 (.inl hb)
          | false =>
            cases hb2 : T2.testBit j with
            | false => rfl
            | true =>
              rcases (hT2b j).1 hb2 with h | h
              · rw [hb] at h; cases h
              · exact absurd h (d2 i' i it' it hi2 hi' hne j hj)
        have hfuel := fuel_step (T := m') (T2 := T2) hi' hju hT2k (fun i' it' hi2 hne => hT2o i' it' hi2 hne it'.k (by simp [Item.idx]))
        obtain ⟨fr', k1, k2, k3⟩ := given_elim (its := its) (lo := lo) (hi := hi) (vv := vv) it.pre [] (fr ++ fo) _ (hS.rep.append hfo) (fun p hp => by
          obtain ⟨x, hx, hb⟩ := hpre p hp
          obtain ⟨h1, h2, h3, h4, h5⟩ := hS.f p x hx hb
          exact ⟨x, hx, h1, h2, h3, h4, h5⟩) (List.Pairwise.imp_of_mem (fun {p q} hp hq hpq => by
            obtain ⟨x, hx, hb⟩ := hpre p hp
            obtain ⟨y, hy, hb'⟩ := hpre q hq
            exact hS.ap p q x y hx hy hb hb' (by omega)) q3) (fun q hq => by cases hq) (hsteps it hit w' hS.bel fo m' T2 (base + fuelOf T2 its))
        have hkeep : ∀ t v, a.tmps[t]? = some v → fr'.get t = some v := fun t v hv => by
          cases hg : fr'.get t with
          | some u => rw [← hv]; exact (k1.get t u hg).symm
          | none =>
            have h1 := k2 t hg
            rw [Fr.get_append, hfo2 t v hv] at h1
            cases h2 : fr.get t <;> rw [h2] at h1 <;> cases h1
        have hL := k3 (fun vs w'' hφ hb a' ha' => by
          have hkeep' : ∀ t v, a.tmps[t]? = some v → t ∉ it.ds → a'.tmps[t]? = some v := fun t v hv ht => by
            refine ha'.get t v ?_
            rw [Fr.get_append]
            cases hz : Fr.get (it.ds.zip vs) t with
            | some u => exact absurd (zip_get hz) ht
            | none => exact hkeep t v hv
          have hss := hb.size
          have hs0 := hS.bel.size
          refine ih (fuelOf T2 its) (by omega) T2 a' w'' (fun j => if j = i then w'.heap.size else lo j) (fun j => if j = i then w''.heap.size else hi j) (fun j => if j = i then vs else vv j) rfl
            ⟨⟨ha'.size, ha'.defers, fun t v hv => hkeep' t v (hS.rep.get t v hv) (fun hd => by rw [hfr it hit t hd] at hv; cases hv)⟩, hS.bel.trans (hb.mono hs0), fun j hj => (hT2b j).2 (.inl (hS.low j hj)), fun j hj => ?_, fun it' hit' j hj => ?_, fun i' it' hi2 hb2 => ?_, fun i1 i2 x y hx hy hbx hby hne => ?_⟩
          · rcases (hT2b j).1 hj with h | h
            · exact hS.up j h
            · exact .inr ⟨it, hit, h⟩
          · obtain ⟨i', _, hi2⟩ := nthI_of_mem hit'
            by_cases e : i' = i
            · subst e
              rw [hi'] at hi2; injection hi2 with hi2; subst hi2
              rw [hT2k, (hT2b j).2 (.inr hj)]
            · rw [hT2o i' it' hi2 e j hj, hT2o i' it' hi2 e it'.k (by simp [Item.idx])]
              exact hS.whole it' hit' j hj
          · by_cases e : i' = i
            · subst e
              rw [hi'] at hi2; injection hi2 with hi2; subst hi2
              simp only [if_true]
              refine ⟨⟨ha'.size, ha'.defers, fun t v hv => ha'.get t v ?_⟩, hφ, by omega, by omega, Nat.le_refl _⟩
              rw [Fr.get_append, hv]
            · simp only [if_neg e]
              rw [hT2o i' it' hi2 e it'.k (by simp [Item.idx])] at hb2
              obtain ⟨h1, h2, h3, h4, h5⟩ := hS.f i' it' hi2 hb2
              refine ⟨⟨ha'.size, ha'.defers, fun t v hv => hkeep' t v (h1.get t v hv) (fun hd => ?_)⟩, hstab it' (nthI_mem hi2) _ _ _ _ _ h2 hb, h3, h4, by omega⟩
              exact e2 i' i it' it hi2 hi' e t (zip_get hv) hd
          · by_cases ex : i1 = i
            · subst ex
              have ey : i2 ≠ i1 := Ne.symm hne
              simp only [if_true, if_neg ey]
              rw [hT2o i2 y hy ey y.k (by simp [Item.idx])] at hby
              have := (hS.f i2 y hy hby).2.2.2.2
              exact .inr this
            · by_cases ey : i2 = i
              · subst ey
                simp only [if_true, if_neg ex]
                rw [hT2o i1 x hx ex x.k (by simp [Item.idx])] at hbx
                have := (hS.f i1 x hx hbx).2.2.2.2
                exact .inl this
              · simp only [if_neg ex, if_neg ey]
                rw [hT2o i1 x hx ex x.k (by simp [Item.idx])] at hbx
                rw [hT2o i2 y hy ey y.k (by simp [Item.idx])] at hby
                exact hS.ap i1 i2 x y hx hy hbx hby hne) a k1
        have hmap := inOrder_map q5
        obtain ⟨o, l', hol⟩ : ∃ o l', inOrder ops it.idx = o :: l' := by
          cases h : inOrder ops it.idx with
          | nil => rw [h] at hmap; simp [Item.idx] at hmap
          | cons o l' => exact ⟨o, l', rfl⟩
        rw [hol] at hmap
        have hmap2 : some o = ops.toArray[it.k]? ∧ l'.map some = (it.ps.map Prod.snd).map (fun k => ops.toArray[k]?) := by
          rw [Item.idx, List.map_cons, List.map_cons] at hmap
          exact List.cons.inj hmap
        obtain ⟨o1, o2⟩ := opsOf_ps (ops := ops.toArray) (l := ops.toArray.toList) (n := base + fuelOf T2 its) (T := T2) it.ps _ q6
        have hl' : l'.length = it.ps.length := by have := congrArg List.length hmap2.2; simpa using this
        have fin := hL D' A' listed o l' hol hm hmap2.1.symm (by rw [hmap2.2, o1, List.map_map]; rfl) hj (by
          rw [← hT2]
          exact chk_of_chkP (T := m') it.ps _ _ q6 (fun i hi => by rw [bit_lor] at hi ⊢; exact hi.imp (hsb i) id) (fun i hi => by
            rw [bit_lor] at hi ⊢
            rcases hi with hi | hi
            · exact .inl hi
            · exact .inr (.inr hi)) (fun p hp => by rw [hS.whole it hit p.2 (by simp only [Item.idx, List.mem_cons, List.mem_map]; exact .inr ⟨p, hp, rfl⟩)]; exact hju))
        rw [o2, hl'] at fin
        rw [show base + f' = it.ps.length + (base + fuelOf T2 its) by omega]
        exact fin
  intro a ha
  have h0 : ∀ it ∈ its, m.testBit it.k = false := fun it hit => d1 it hit it.k (by simp [Item.idx])
  exact main _ m a w (fun _ => 0) (fun _ => 0) (fun _ => []) rfl ⟨ha, Below.refl _ _, fun _ h => h, fun _ h => .inl h, fun it hit j hj => by rw [d1 it hit j hj, h0 it hit],
    fun i it hi hb => absurd hb (by rw [h0 it (nthI_mem hi)]; simp), fun i j it it' hi _ hb _ _ => absurd hb (by rw [h0 it (nthI_mem hi)]; simp)⟩
end
end Go.Proofs.YtahkeoegbjopfaaGreat
