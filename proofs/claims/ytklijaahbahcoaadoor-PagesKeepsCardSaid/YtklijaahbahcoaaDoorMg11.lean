/-
  The table of math/bits, out of what the row lists.
-/
import Derived.Test.YtklijaahbahcoaaDoorMg10
import Derived.Test.YtklijaahbahcoaaDoorTie
import Derived.LaidMore
import Derived.Lay
import Derived.SevenTiedAt
namespace Go.Proofs.YtklijaahbahcoaaDoor
set_option maxRecDepth 100000
open Go.ChangeShapes Go.WideShapes Go.ChangeAt Go.RowKit
abbrev tabLaid : List (String × DataW Unit) := [("math/bits.deBruijn64tab", Rows.laid_math_bits_deBruijn64tab)]
theorem tab_datum : (Rows.laid_math_bits_deBruijn64tab : DataW Unit) = .agg (tabL.map fun b => .lit (.int .u8 (b.toNat : Int))) := rfl
theorem tab_of_laid {W : World} (h : laidMetH Tryd.prog tabLaid W) : TabAt0 W 0 := by
  rw [MakeChecks.laidMetH_plain _ _ _ (by kernel_rfl)] at h
  obtain ⟨ps, ⟨g, t, cs, fuel, p, q, hg, ht, hv, hd, _, _⟩, _, _⟩ := h
  obtain rfl := Option.some.inj ((show Tryd.prog.globalNamed "math/bits.deBruijn64tab" = some 0 by kernel_rfl).symm.trans hg)
  obtain rfl := Option.some.inj ((show (Tryd.prog.globals[0]?).map (·.type) = some 80 by kernel_rfl).symm.trans ht)
  obtain ⟨xs, m, _, ex, _, hl, hel⟩ := DataW.trod_array Tryd.underlying80 hd
  have c5 : Tryd.prog.cellsOf 5 = 1 := by kernel_rfl
  have hlen : tabL.length = 64 := rfl
  rw [tab_datum] at ex
  have e3 : (xs.map (·.1)) = tabL.map fun b => (DataW.lit (.int .u8 (b.toNat : Int)) : DataW Unit) := (DataW.agg.inj (Prod.mk.inj ex).1).symm
  have hcell : ∀ r : Nat, (hr : r < 64) → W.cell? ⟨0, r, none⟩ = some (.int .u8 ((tabL[r]'(by omega)).toNat : Int)) := fun r hr => by
    have hE := hel r hr
    rw [c5, Nat.mul_one, List.getElem?_eq_getElem (by omega)] at hE
    obtain ⟨z, e1, e2, _⟩ := DataW.trod_int Tryd.underlying5 hE
    have e4 : (xs.map (·.1))[r]? = (tabL.map fun b => (DataW.lit (.int .u8 (b.toNat : Int)) : DataW Unit))[r]? := by rw [e3]
    rw [List.getElem?_map, List.getElem?_map, List.getElem?_eq_getElem (by omega : r < xs.length), List.getElem?_eq_getElem (by omega : r < tabL.length), e2] at e4
    have hz : z = ((tabL[r]'(by omega)).toNat : Int) := by
      simp only [Option.map_some, Option.some.injEq, DataW.lit.injEq, Lit.int.injEq, true_and] at e4
      exact e4
    rw [World.var?_cell hg hv r, ← hz]
    have : cs.toList[r]? = some (.int .u8 z) := by
      have h0 : ((cs.toList.drop r).take 1)[0]? = some (.int .u8 z) := by rw [e1]; rfl
      simpa using h0
    simpa using this
  refine ⟨⟨by rw [B8_length, hlen], fun _ => ⟨_, 0, rfl, fun j u hj => ?_⟩⟩, fun k e => ?_⟩
  · have hj2 : j < 64 := by
      rcases Nat.lt_or_ge j 64 with h | h
      · exact h
      · rw [List.getElem?_eq_none (by rw [B8_length, hlen]; exact h)] at hj; cases hj
    rw [Nat.zero_add, hcell j hj2, ← hj]
    unfold B8
    rw [List.getElem?_map, List.getElem?_eq_getElem (by omega)]; rfl
  · have : 0 = k := by simpa [blk] using e
    omega
end Go.Proofs.YtklijaahbahcoaaDoor
