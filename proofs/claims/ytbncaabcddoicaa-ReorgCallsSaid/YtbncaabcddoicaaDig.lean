/-
  Digests: arrays of 32 bytes; rows of them; maps with such keys.
-/
import Derived.Test.YtbncaabcddoicaaRow
import Derived.Maps.OwnSet
import Derived.WideKeyArr2
import Derived.Carry
namespace Go.Proofs.Ytbncaabcddoicaa
open Go.RowKit

/-- A digest. -/
abbrev Dg := { l : List UInt8 // l.length = 32 }
def cD (L : List Dg) : List Value := L.flatMap fun d => B8 d.1
abbrev vD (d : Dg) : Value := .agg (B8 d.1).toArray
theorem B8_inj : ∀ {l m : List UInt8}, B8 l = B8 m → l = m
  | [], [], _ => rfl
  | [], _ :: _, h => by cases h
  | _ :: _, [], h => by cases h
  | a :: l, b :: m, h => by
    simp only [B8, List.map_cons, List.cons.injEq, Value.int.injEq, true_and] at h
    rw [UInt8.toNat_inj.1 (Int.ofNat.inj h.1), B8_inj (l := l) (m := m) h.2]
theorem vD_inj {d e : Dg} (h : vD d = vD e) : d = e := by
  unfold vD at h
  injection h with h
  have h := List.toArray_inj h
  exact Subtype.ext (B8_inj h)
theorem cD_length (L : List Dg) : (cD L).length = L.length * 32 := by
  induction L with
  | nil => rfl
  | cons d L ih => simp only [cD, List.flatMap_cons, List.length_append, List.length_cons, B8_length, d.2] at ih ⊢; omega
theorem cD_append (L M : List Dg) : cD (L ++ M) = cD L ++ cD M := by simp [cD]
theorem cD_cons (d : Dg) (L : List Dg) : cD (d :: L) = B8 d.1 ++ cD L := rfl
theorem cD_drop : ∀ (L : List Dg) (k : Nat), cD (L.drop k) = (cD L).drop (k * 32)
  | L, 0 => by simp
  | [], k + 1 => by simp [cD]
  | d :: L, k + 1 => by
    rw [List.drop_succ_cons, cD_drop L k, cD_cons, show (k + 1) * 32 = 32 + k * 32 by omega, ← List.drop_drop]
    congr 1
    rw [List.drop_append_of_le_length (by rw [B8_length, d.2]; omega), List.drop_of_length_le (by rw [B8_length, d.2]; omega), List.nil_append]
theorem cD_take : ∀ (L : List Dg) (k : Nat), cD (L.take k) = (cD L).take (k * 32)
  | L, 0 => by simp [cD]
  | [], k + 1 => by simp [cD]
  | d :: L, k + 1 => by
    rw [List.take_succ_cons, cD_cons, cD_take L k, cD_cons, show (k + 1) * 32 = 32 + k * 32 by omega, List.take_append, B8_length, d.2, Nat.add_sub_cancel_left]
    congr 1
    rw [List.take_of_length_le (by rw [B8_length, d.2]; omega)]
theorem cD_oneCell (L : List Dg) : ∀ v ∈ cD L, v.oneCell' = true := fun v hv => by
  obtain ⟨d, _, hd⟩ := List.mem_flatMap.1 hv
  exact B8_oneCell d.1 v hd
theorem cD_get (L : List Dg) (j : Nat) (hj : j < L.length) (i : Nat) (u : Value) (h : (B8 L[j].1)[i]? = some u) : (cD L)[j * 32 + i]? = some u := by
  have hi : i < 32 := by
    rcases Nat.lt_or_ge i 32 with h1 | h1
    · exact h1
    · rw [List.getElem?_eq_none (by rw [B8_length, L[j].2]; exact h1)] at h; cases h
  rw [← List.getElem?_drop, ← cD_drop, List.drop_eq_getElem_cons hj, cD_cons, List.getElem?_append_left (by rw [B8_length, L[j].2]; exact hi)]
  exact h

/-- A slice of digests reads as L. -/
def RD (w : World) (A : Option Addr) (L : List Dg) : Prop := Reads w 32 A L.length (cD L)
def OwnD (w : World) (B : Nat) (A : Option Addr) (c : Nat) (L : List Dg) : Prop := w.ownsRow B 50 32 (.slice A L.length c) L.length (cD L)
section
variable {w w' : World} {A : Option Addr} {L : List Dg} {B c : Nat}
theorem RD.nil (w : World) (A : Option Addr) : RD w A [] := ⟨rfl, fun h => absurd rfl h⟩
theorem RD.below (h : RD w A L) (hb : Below w.heap.size w w') : RD w' A L := Reads.below h hb
theorem RD.drew (h : RD w A L) : RD w.drew A L := h
theorem RD.grown {row : Option Nat} (h : RD w A L) (hg : w.grownBy w' row) (hne : blk A = none ∨ blk A ≠ row) : RD w' A L := Reads.grown h hg hne
theorem RD.cut (h : RD w A L) {k c : Nat} (hk : k ≤ L.length) (hc : L.length ≤ c) : RD w (cutA A c 32 k) (L.drop k) := by
  unfold RD
  rw [cD_drop]
  exact Reads.cutn h hk hc (by rw [List.length_drop])
theorem RD.take (h : RD w A L) {k : Nat} (hk : k ≤ L.length) : RD w A (L.take k) := by
  unfold RD
  rw [cD_take, List.length_take, Nat.min_eq_left hk]
  exact Reads.taken h hk
theorem RD.at_ (h : RD w A L) (hn : L ≠ []) : ∃ b o, A = some ⟨b, o, none⟩ ∧ ∀ j (hj : j < L.length) i u, (B8 L[j].1)[i]? = some u → w.cell? ((⟨b, o + j * 32, none⟩ : Addr).add i) = some u := by
  have hl : 0 < L.length := List.length_pos_iff.2 hn
  obtain ⟨b, o, rfl, hc⟩ := h.2 (by intro e; have := congrArg List.length e; rw [cD_length] at this; simp at this; omega)
  exact ⟨b, o, rfl, fun j hj i u hu => by rw [add_plain, Nat.add_assoc]; exact hc _ u (cD_get L j hj i u hu)⟩
theorem OwnD.nil (w : World) (B : Nat) : OwnD w B none 0 [] := World.ownsRow_nil _ _ _ _
theorem OwnD.rd (h : OwnD w B A c L) : RD w A L := Reads.of_own h
theorem OwnD.drew (h : OwnD w B A c L) : OwnD w.drew B A c L := World.ownsRow.drew h
theorem OwnD.lt (h : OwnD w B A c L) : ∀ k, blk A = some k → B ≤ k ∧ k < w.heap.size := fun k hk => World.ownsRow.lt h k (by rw [blk_own]; exact hk)
theorem OwnD.kept (h : OwnD w B A c L) {row : Option Nat} (hg : w.grownBy w' row) (hne : blk A = none ∨ blk A ≠ row) : OwnD w' B A c L := World.ownsRow.kept h hg (by rw [blk_own]; exact hne)
theorem OwnD.below (h : OwnD w B A c L) (hb : Below w.heap.size w w') : OwnD w' B A c L :=
  h.kept (row := none) ⟨hb.os, hb.tape, hb.output, hb.size, fun k hk _ => hb.block k hk⟩ (by cases blk A <;> simp)
theorem OwnD.base (h : OwnD w B A c L) {B' : Nat} (hB : B' ≤ B) : OwnD w B' A c L := by
  refine ⟨h.1, ?_⟩
  rcases h.2 with h1 | ⟨g, cap, cur, h2, h3, h4⟩
  · exact .inl h1
  · exact .inr ⟨g, cap, cur, h2, by omega, h4⟩
theorem OwnD.cap (h : OwnD w B A c L) : L.length ≤ c := by
  rcases h.2 with ⟨h1, h2⟩ | ⟨g, cap, cur, h2, h3, h4, h5, _⟩
  · injection h1 with _ _ h3; omega
  · injection h2 with _ _ h6; omega
end
def z32 : List Value := List.replicate 32 (.int .u8 0)
theorem Try.rowD : RowT Try.prog 23 50 (.agg z32.toArray) 32 32 := ⟨Try.underlying23, by kernel_rfl, rfl, by omega⟩
theorem Try.digest_eq : Try.prog.eqGuardType Try.prog.depth 50 = false := by kernel_rfl

section
variable {fn : Func} {F : Ending → World → Prop} {N : Nat} {ks : List K} {ops : Array Oper} {tg : Tags} {l : List Oper} {fr : Fr} {w : World} {ty t t' : TypeId} {pos : String} {aft : Array Edge} {gd : Option (Nat × Bool)} {d g : Nat} {x y k : Operand}
theorem o_loadD {ad : Addr} {q : Dg} (hx : fr.ev x = some (.pointer (some ad))) (hc : ∀ i u, (B8 q.1)[i]? = some u → w.cell? (ad.add i) = some u) : OpV Try.prog N fr w (.load 50 x) ty (vD q) w :=
  o_loadn (cs := B8 q.1) Try.isAgg50 (by rw [B8_length, q.2]; exact Try.sizeOf50) hx hc
theorem o_loadDb {q : Dg} {cs : List Value} (hx : fr.ev x = some (.pointer (some ⟨g, 0, none⟩))) (hB : Blk w g t' cs) (hc : cs = B8 q.1) : OpV Try.prog N fr w (.load 50 x) ty (vD q) w := by
  subst hc
  exact o_load_all Try.isAgg50 Try.sizeOf50 hx hB (by rw [B8_length, q.2])
theorem o_deq {p q : Dg} (hx : fr.ev x = some (vD p)) (hy : fr.ev y = some (vD q)) : OpV Try.prog N fr w (.binOp .eql 50 x y t') ty (.bool (decide (p = q))) w := by
  have h := o_aeq (P := Try.prog) (N := N) (w := w) (ty := ty) (t' := t') Try.underlying50 Try.underlying5 Try.sizeOf5 Try.digest_eq hx hy p.2 q.2
  have e : decide (p.1 = q.1) = decide (p = q) := by rw [Bool.eq_iff_iff]; simp [Subtype.ext_iff]
  rwa [e] at h
theorem o_dne {p q : Dg} (hx : fr.ev x = some (vD p)) (hy : fr.ev y = some (vD q)) : OpV Try.prog N fr w (.binOp .neq 50 x y t') ty (.bool (decide (p ≠ q))) w := by
  have h := o_ane (P := Try.prog) (N := N) (w := w) (ty := ty) (t' := t') Try.underlying50 Try.underlying5 Try.sizeOf5 Try.digest_eq hx hy p.2 q.2
  have e : decide (p.1 ≠ q.1) = decide (p ≠ q) := by rw [Bool.eq_iff_iff]; simp [Subtype.ext_iff]
  rwa [e] at h
theorem wl_appD {B : Nat} {A X : Option Addr} {n c j q : Nat} {L M : List Dg} (hx : fr.ev x = some (.slice A n c)) (hn : n = L.length) (hown : OwnD w B A c L) (hy : fr.ev y = some (.slice X j q)) (hj : j = M.length) (hr : RD w X M)
    (hlen : L.length + M.length ≤ 4000000) (hB : B ≤ w.heap.size)
    (h : ∀ A' c' w', OwnD w' B A' c' (L ++ M) → w.grownBy w' (blk A) → (blk A' = blk A ∨ blk A' = some w.heap.size) → Below B w w' → WL Try.prog fn F N ks ops tg.tail l ((d, .slice A' (L ++ M).length c') :: fr) w')
    (ht : tg.loud = true := by rfl) (hg : onG ops fr gd = true := by rfl) (hd : Nat.blt d N = true := by rfl) (hq : tg.calm = false ∨ blk A = none ∨ blk A = tg.row := by exact .inl rfl) :
    WL Try.prog fn F N ks ops tg (⟨some d, .call { callee := .builtin .append, args := #[x, y], argTypes := #[23, 23] }, ty, pos, aft, gd⟩ :: l) fr w := by
  subst hn; subst hj
  refine wl_appn Try.rowD hx hown hy hr (cD_oneCell M) (by simp only [maxLen]; omega) (by omega) hB (fun A' c' w' h1 h2 h3 h4 => ?_) ht hg hd hq
  have := h A' c' w' (by unfold OwnD; rw [cD_append, List.length_append]; exact h1) h2 h3 h4
  rwa [List.length_append] at this
/-- The literal of some digests. -/
theorem wl_litD (L : List Dg) {xs : List Operand} (n : Nat) (hx : fr.evs xs = some (L.map vD)) (hn : L.length = n) (hm : Nat.ble (n * 32) 1000000 = true)
    (hk : ∀ w', (∀ B, B ≤ w.heap.size → OwnD w' B (some ⟨w.heap.size, 0, none⟩) n L) → Below w.heap.size w w' → w'.heap.size = w.heap.size + 1 → WL Try.prog fn F N ks ops tg.tail l ((d, .slice (some ⟨w.heap.size, 0, none⟩) n n) :: fr) w')
    (ht : tg.loud = true := by rfl) (hg : onG ops fr gd = true := by rfl) (hd : Nat.blt d N = true := by rfl) : WL Try.prog fn F N ks ops tg (⟨some d, .buildSlice 23 n ((List.range' 0 n).zip xs).toArray, ty, pos, aft, gd⟩ :: l) fr w := by
  subst hn
  refine wl_litn Try.rowD Try.sizeOf50 Try.zeroValue50 L.length hx (by simp) (fun v hv => ?_) hm (fun w' h1 h2 h3 => hk w' (fun B hB => ?_) h2 h3) ht hg hd
  · obtain ⟨d, _, rfl⟩ := List.mem_map.1 hv
    show (B8 d.1).toArray.size = 32
    rw [List.size_toArray, B8_length, d.2]
  · have h4 := h1 B hB
    have e : (L.map vD).flatMap (fun v => v.cells.toList) = cD L := by
      clear h1 h4 hk hm hx
      induction L with
      | nil => rfl
      | cons d L ih => rw [List.map_cons, List.flatMap_cons, ih]; rfl
    rwa [e] at h4
end
end Go.Proofs.Ytbncaabcddoicaa
