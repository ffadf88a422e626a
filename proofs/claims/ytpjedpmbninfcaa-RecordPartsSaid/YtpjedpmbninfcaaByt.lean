/-
  A byte of a row of the call's own is written; two bytes combined. No function of the program is named here.
-/
import Derived.Test.YtpjedpmbninfcaaW
namespace Go.Proofs.Ytpjedpmbninfcaa
open Go.RowKit
theorem b8_vK (l : List UInt8) : B8 l = vK .u8 (l.map UInt8.toNat) := by
  unfold B8 vK; rw [List.map_map]; rfl
theorem OwnH.to_K {w : World} {lo hi c : Nat} {A : Option Addr} {l : List UInt8} (h : OwnH w lo hi A c l) : OwnK .u8 5 w lo hi A c (l.map UInt8.toNat) := by
  have h' : RowH w lo hi 5 1 A l.length c (B8 l) := h
  rw [b8_vK] at h'
  show RowH w lo hi 5 1 A (l.map UInt8.toNat).length c _
  rw [List.length_map]
  exact h'
theorem OwnK.to_H {w : World} {lo hi c : Nat} {A : Option Addr} {l : List UInt8} (h : OwnK .u8 5 w lo hi A c (l.map UInt8.toNat)) : OwnH w lo hi A c l := by
  have h' : RowH w lo hi 5 1 A (l.map UInt8.toNat).length c (vK .u8 (l.map UInt8.toNat)) := h
  rw [List.length_map, ← b8_vK] at h'
  exact h'
theorem OwnH.some_ {w : World} {lo hi c : Nat} {A : Option Addr} {l : List UInt8} (h : OwnH w lo hi A c l) (hl : 0 < l.length) : A = some (A.getD ⟨0, 0, none⟩) := h.to_Rd.some_ (by decide) (by simpa using hl)
theorem xor_u8 (a b : UInt8) : bits .xor .u8 (a.toNat : Int) (b.toNat : Int) = ((a ^^^ b).toNat : Int) := by
  have ha := a.toNat_lt
  have hb := b.toNat_lt
  have hx : a.toNat ^^^ b.toNat < 2 ^ 8 := Nat.xor_lt_two_pow (by omega) (by omega)
  have h1 : (BitVec.ofInt 8 (a.toNat : Int)).toNat = a.toNat := by
    rw [BitVec.ofInt_natCast, BitVec.toNat_ofNat]; exact Nat.mod_eq_of_lt (by omega)
  have h2 : (BitVec.ofInt 8 (b.toNat : Int)).toNat = b.toNat := by
    rw [BitVec.ofInt_natCast, BitVec.toNat_ofNat]; exact Nat.mod_eq_of_lt (by omega)
  show IntKind.u8.wrap ((BitVec.ofInt 8 (a.toNat : Int) ^^^ BitVec.ofInt 8 (b.toNat : Int)).toNat : Int) = _
  rw [BitVec.toNat_xor, h1, h2, UInt8.toNat_xor, u8_in (by omega) (by omega)]
section
variable {P : Program} {fn : Func} {F : Ending → World → Prop} {N : Nat} {ks : List K} {ops : Array Oper} {tg : Tags} {l : List Oper} {fr : Fr} {w : World} {ty t t' : TypeId} {pos : String} {aft : Array Edge} {gd : Option (Nat × Bool)} {c j lo hi : Nat} {x y : Operand} {A : Option Addr} {bs : List UInt8} {u v : UInt8}
--@ rule! binOp p o_xor8
theorem o_xor8 (hx : fr.ev x = some (.int .u8 (u.toNat : Int))) (hy : fr.ev y = some (.int .u8 (v.toNat : Int))) : OpV P N fr w (.binOp .xor t x y t') ty (.int .u8 ((u ^^^ v).toNat : Int)) w := o_asi (o_xor hx hy) (xor_u8 u v)
--@ rule store l wl_stO
theorem wl_stO (hs : ∀ w, (sizeOf t).run P w = .ok 1 w) (hx : fr.ev x = some (.pointer (some (adr A j)))) (hown : OwnH w lo hi A c bs) (hy : fr.ev y = some (.int .u8 (u.toNat : Int))) (hj : j < bs.length)
    (hk : ∀ w', OwnH w' lo hi A c (bs.set j u) → Grew w w' 5 (blk A) → Below lo w w' → w'.heap.size = w.heap.size → WL P fn F N ks ops tg.tail l fr w') (ht : tg.loud = true := by rfl) (hg : onG ops fr gd = true := by rfl) (hq : tg.calm = false ∨ blk A = tg.row := by exact .inl rfl) :
    WL P fn F N ks ops tg (⟨none, .store t x y, ty, pos, aft, gd⟩ :: l) fr w :=
  wl_stK (a := u.toNat) hs hx hown.to_K hy (by rw [List.length_map]; exact hj) (fun w' h1 h2 h3 h4 => hk w' (by
    rw [show (bs.map UInt8.toNat).set j u.toNat = (bs.set j u).map UInt8.toNat from List.map_set.symm] at h1
    exact h1.to_H) h2 h3 h4) ht hg hq
--@ rule load r o_loadCut
theorem o_loadCut {N g i n : Nat} {fr : Fr} {w : World} {ty t t' : TypeId} {x : Operand} {cs vs : List Value} (ha' : ∀ w, (isAgg t).run P w = .ok true w) (hs : ∀ w, (sizeOf t).run P w = .ok n w) (hx : fr.ev x = some (.pointer (some ⟨g, i, none⟩))) (hB : Blk w g t' cs) (hv : (cs.drop i).take n = vs) (hn : vs.length = n) : OpV P N fr w (.load t x) ty (.agg vs.toArray) w := by
  subst hn
  refine o_loadn ha' hs hx (fun j u hj => ?_)
  rw [add_plain, hB.cell]
  rw [← hv] at hj
  have hj2 : j < vs.length := by
    rcases Nat.lt_or_ge j vs.length with h | h
    · exact h
    · rw [List.getElem?_eq_none (by rw [List.length_take]; omega)] at hj; cases hj
  rw [List.getElem?_take_of_lt hj2, List.getElem?_drop] at hj
  exact hj
end
end Go.Proofs.Ytpjedpmbninfcaa
