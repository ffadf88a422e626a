/-
  Nodes of a tree as they lie in memory.
-/
import Derived.Test.YtchcpnfafgiifaaLfA
import Derived.Test.YtchcpnfafgiifaaIface
namespace Go.Proofs.Ytchcpnfafgiifaa
open Go.RowKit
abbrev By := List UInt8
def gItem : GoT (By × By) := gBytes.pair gBytes
/-- A slice of items. -/
def RI (w : World) (A : Option Addr) (L : List (By × By)) : Prop := RSl gItem w A L
/-- A slice of keys. -/
def RKy (w : World) (A : Option Addr) (L : List By) : Prop := RSl gBytes w A L
section
variable {w w' : World} {A : Option Addr} {L : List (By × By)} {K : List By}
theorem RI.u (h : RI w A L) (hb : Below w.heap.size w w') : RI w' A L := RSl.u h hb
theorem RI.d (h : RI w A L) : RI w.drew A L := RSl.u h (below_drew w)
theorem RI.some_ (h : RI w A L) (hl : 0 < L.length) : A = some (A.getD ⟨0, 0, none⟩) := RSl.some_ h (by decide) hl
theorem RI.nil_ : RI w none [] := RSl.nil _ _ _
theorem RKy.u (h : RKy w A K) (hb : Below w.heap.size w w') : RKy w' A K := RSl.u h hb
theorem RKy.d (h : RKy w A K) : RKy w.drew A K := RSl.u h (below_drew w)
theorem RKy.some_ (h : RKy w A K) (hl : 0 < K.length) : A = some (A.getD ⟨0, 0, none⟩) := RSl.some_ h (by decide) hl
theorem RKy.nil_ : RKy w none [] := RSl.nil _ _ _
theorem RI.elem (h : RI w A L) {i : Nat} (hi : i < L.length) : ∃ A1 c1 A2 c2, CellsAt w A (i * 2) [.slice A1 L[i].1.length c1, .slice A2 L[i].2.length c2] ∧ Rd w A1 L[i].1 ∧ Rd w A2 L[i].2 ∧ L[i].1.length ≤ c1 ∧ L[i].2.length ≤ c2 := by
  obtain ⟨cs, h1, x, y, rfl, ⟨A1, c1, rfl, h2, h3, _⟩, A2, c2, rfl, h4, h5, _⟩ := RSl.elem h (by decide) hi
  exact ⟨A1, c1, A2, c2, h1, h2, h4, h3, h5⟩
theorem RKy.elem (h : RKy w A K) {i : Nat} (hi : i < K.length) : ∃ A1 c1, CellsAt w A (i * 1) [.slice A1 K[i].length c1] ∧ Rd w A1 K[i] ∧ K[i].length ≤ c1 := by
  obtain ⟨cs, h1, A1, c1, rfl, h2, h3, _⟩ := RSl.elem h (by decide) hi
  exact ⟨A1, c1, h1, h2, h3⟩
end
section
variable {fn : Func} {F : Ending → World → Prop} {N : Nat} {ks : List K} {ops : Array Oper} {tg : Tags} {l : List Oper} {fr : Fr} {w : World} {ty t t' : TypeId} {pos : String} {aft : Array Edge} {gd : Option (Nat × Bool)} {d j : Nat} {x y : Operand} {A : Option Addr} {L : List (By × By)} {Ky : List By} {w0 : World}
--@ rule load l wl_ldItem
theorem wl_ldItem (hx : fr.ev x = some (.pointer (some (adr A (j * 2))))) (hr : RI w0 A L) (hb : Below w0.heap.size w0 w) (hj : j < L.length)
    (hk : ∀ A1 c1 A2 c2, Rd w0 A1 L[j].1 → Rd w0 A2 L[j].2 → L[j].1.length ≤ c1 → L[j].2.length ≤ c2 → WL Try.prog fn F N ks ops tg.tail l ((d, .agg #[.slice A1 L[j].1.length c1, .slice A2 L[j].2.length c2]) :: fr) w)
    (ht : tg.reads = true := by rfl) (hg : onG ops fr gd = true := by rfl) (hd : Nat.blt d N = true := by rfl) : WL Try.prog fn F N ks ops tg (⟨some d, .load 31 x, ty, pos, aft, gd⟩ :: l) fr w := by
  obtain ⟨A1, c1, A2, c2, h1, h2, h3, h4, h5⟩ := hr.elem hj
  refine wl_r (o_loadn (cs := [.slice A1 L[j].1.length c1, .slice A2 L[j].2.length c2]) Try.isAgg31 Try.sizeOf31 hx (fun i u hu => ?_)) (hk A1 c1 A2 c2 h2 h3 h4 h5) ht hg hd
  rw [adr_add]
  exact h1.u hb i u hu
--@ rule load l wl_ldKey
theorem wl_ldKey (hx : fr.ev x = some (.pointer (some (adr A (j * 2 + 0))))) (hr : RI w0 A L) (hb : Below w0.heap.size w0 w) (hj : j < L.length)
    (hk : ∀ A1 c1, Rd w0 A1 L[j].1 → L[j].1.length ≤ c1 → WL Try.prog fn F N ks ops tg.tail l ((d, .slice A1 L[j].1.length c1) :: fr) w)
    (ht : tg.reads = true := by rfl) (hg : onG ops fr gd = true := by rfl) (hd : Nat.blt d N = true := by rfl) : WL Try.prog fn F N ks ops tg (⟨some d, .load 27 x, ty, pos, aft, gd⟩ :: l) fr w := by
  obtain ⟨A1, c1, A2, c2, h1, h2, h3, h4, h5⟩ := hr.elem hj
  exact wl_r (o_load (t := 27) Try.isAgg27 hx (h1.u hb 0 _ rfl)) (hk A1 c1 h2 h4) ht hg hd
--@ rule load l wl_ldVal
theorem wl_ldVal (hx : fr.ev x = some (.pointer (some (adr A (j * 2 + 1))))) (hr : RI w0 A L) (hb : Below w0.heap.size w0 w) (hj : j < L.length)
    (hk : ∀ A1 c1, Rd w0 A1 L[j].2 → L[j].2.length ≤ c1 → WL Try.prog fn F N ks ops tg.tail l ((d, .slice A1 L[j].2.length c1) :: fr) w)
    (ht : tg.reads = true := by rfl) (hg : onG ops fr gd = true := by rfl) (hd : Nat.blt d N = true := by rfl) : WL Try.prog fn F N ks ops tg (⟨some d, .load 27 x, ty, pos, aft, gd⟩ :: l) fr w := by
  obtain ⟨A1, c1, A2, c2, h1, h2, h3, h4, h5⟩ := hr.elem hj
  exact wl_r (o_load (t := 27) Try.isAgg27 hx (h1.u hb 1 _ rfl)) (hk A2 c2 h3 h5) ht hg hd
--@ rule load l wl_ldKy
theorem wl_ldKy (hx : fr.ev x = some (.pointer (some (adr A j)))) (hr : RKy w0 A Ky) (hb : Below w0.heap.size w0 w) (hj : j < Ky.length)
    (hk : ∀ A1 c1, Rd w0 A1 Ky[j] → Ky[j].length ≤ c1 → WL Try.prog fn F N ks ops tg.tail l ((d, .slice A1 Ky[j].length c1) :: fr) w)
    (ht : tg.reads = true := by rfl) (hg : onG ops fr gd = true := by rfl) (hd : Nat.blt d N = true := by rfl) : WL Try.prog fn F N ks ops tg (⟨some d, .load 27 x, ty, pos, aft, gd⟩ :: l) fr w := by
  obtain ⟨A1, c1, h1, h2, h3⟩ := hr.elem hj
  refine wl_r (o_load (t := 27) Try.isAgg27 hx ?_) (hk A1 c1 h2 h3) ht hg hd
  have := h1.u hb 0 _ rfl
  rwa [Nat.mul_one] at this
end
end Go.Proofs.Ytchcpnfafgiifaa
