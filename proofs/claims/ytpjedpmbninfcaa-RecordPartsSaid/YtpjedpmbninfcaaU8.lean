/-
  Bytes made. No function of the program is named here.
-/
import Derived.Test.YtpjedpmbninfcaaStr
import Derived.Test.YtpjedpmbninfcaaGo
import Derived.Test.YtpjedpmbninfcaaT8
import Derived.Laws.OwnMore
namespace Go.Proofs.Ytpjedpmbninfcaa
open Go.RowKit
theorem own_max {w : World} {lo hi c : Nat} {A : Option Addr} {l : List UInt8} (h : OwnH w lo hi A c l) : c ≤ maxLen := by
  have h1 : w.ownsRow lo 5 1 (.slice A l.length c) l.length (B8 l) := h.o
  rcases h1.2 with ⟨hv, _⟩ | ⟨g, cap, cur, hv, _, _, _, hm, _⟩
  · injection hv with _ _ e; subst e; simp only [maxLen]; omega
  · injection hv with _ _ e
    subst e; exact hm
section
variable {fn : Func} {F : Ending → World → Prop} {N : Nat} {ks : List K} {ops : Array Oper} {tg : Tags} {l : List Oper} {fr : Fr} {w : World} {ty : TypeId} {pos : String} {aft : Array Edge} {gd : Option (Nat × Bool)} {d : Nat} {x y : Operand}
--@ rule makeSlice l wl_mkBz
theorem wl_mkBz {k1 k2 : IntKind} {C E : Int} {Z : List UInt8} (n : Nat) (hx : fr.ev x = some (.int k1 E)) (hy : fr.ev y = some (.int k2 C)) (hE : E = (n : Int)) (hC : C = (n : Int)) (hn : n ≤ 4000000000) (hZ : List.replicate n 0 = Z)
    (hk : ∀ A w', OwnH w' w.heap.size w'.heap.size A n Z → Below w.heap.size w w' → WL Try.prog fn F N ks ops tg.tail l ((d, .slice A n n) :: fr) w')
    (ht : tg.loud = true := by rfl) (hg : onG ops fr gd = true := by rfl) (hd : Nat.blt d N = true := by rfl) : WL Try.prog fn F N ks ops tg (⟨some d, .makeSlice 26 x y, ty, pos, aft, gd⟩ :: l) fr w := by
  subst hC; subst hE; subst hZ
  obtain ⟨i, hi, hz, hs, hb⟩ := info_parts Try.u8.hi
  obtain ⟨w', hrun, r1, r2⟩ := run_make_full (P := Try.prog) w w.heap.size 26 5 i _ 1 Try.u8.ht hi hz hs k1 k2 n (by rw [hb]; omega) (by simp only [maxLen]; omega) (Nat.le_refl _)
  have hbl : Below w.heap.size w w' := (Below.refl _ _).grown r2 (Nat.le_refl _) (by simp)
  have e : (madeCells (Value.int .u8 0).cells (n * 1)).toList = B8 (List.replicate n 0) := by
    rw [Nat.mul_one]; exact (toList_madeCells_one _ _).trans (by simp [B8])
  rw [e] at r1
  have ho : Own w' w.heap.size (some ⟨w.heap.size, 0, none⟩) n (List.replicate n 0) := by
    unfold Own; rw [List.length_replicate]; exact r1
  exact wl_v (fun a ha o ho _ => by simp [execOp, ho, ha.ev hx, ha.ev hy, hrun]) (hk _ w' ho.h_ hbl) ht hg hd (.inr (grown_of_below hbl _))
--@ rule makeSlice l wl_mkB
theorem wl_mkB {k1 k2 : IntKind} {C : Int} (n : Nat) (hx : fr.ev x = some (.int k1 0)) (hy : fr.ev y = some (.int k2 C)) (hC : C = (n : Int)) (hn : n ≤ 281474976710656)
    (hk : ∀ A w', OwnH w' w.heap.size w'.heap.size A n [] → Below w.heap.size w w' → WL Try.prog fn F N ks ops tg.tail l ((d, .slice A 0 n) :: fr) w')
    (ht : tg.loud = true := by rfl) (hg : onG ops fr gd = true := by rfl) (hd : Nat.blt d N = true := by rfl) : WL Try.prog fn F N ks ops tg (⟨some d, .makeSlice 26 x y, ty, pos, aft, gd⟩ :: l) fr w :=
  wl_make0 Try.u8 hx hy hC hn (fun w' h1 h2 _ => hk _ w' h1.h_ h2) ht hg hd
end
end Go.Proofs.Ytpjedpmbninfcaa
