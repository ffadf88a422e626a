/-
  Blocks that are known whole: rules that read and write them. No function of the program is named here.
-/
import Derived.Test.YtklijaahbahcoaaDoorMg1
import Derived.Stop.BytesEq
import Derived.ProofKit
import Derived.OpenShut
import Derived.ChangeSame
import Derived.SizedLaws
import Derived.Deep.Slices
namespace Go.Proofs.YtklijaahbahcoaaDoor
set_option maxRecDepth 100000
open Go.RowKit

/-- Block g is just the cells cs of element type t, none of them frozen. -/
def Blk (w : World) (g : Nat) (t : TypeId) (cs : List Value) : Prop := w.heap[g]? = some (.cells cs.toArray t (0, 0))
/-- The cells L with vs laid over them from k on. -/
def spl (L : List Value) (k : Nat) (vs : List Value) : List Value := L.take k ++ vs ++ L.drop (k + vs.length)
theorem spl_length {L vs : List Value} {k : Nat} (h : k + vs.length ≤ L.length) : (spl L k vs).length = L.length := by simp [spl]; omega
theorem spl_all {L vs : List Value} (h : vs.length = L.length) : spl L 0 vs = vs := by simp [spl, h]
theorem spl_one {L : List Value} {k : Nat} {v : Value} (h : k < L.length) : spl L k [v] = L.set k v := by
  rw [spl, List.set_eq_take_append_cons_drop, if_pos h]; simp

section
variable {P : Program} {w w' : World} {g : Nat} {t : TypeId} {cs : List Value}
theorem Blk.lt (h : Blk w g t cs) : g < w.heap.size := by
  rcases Nat.lt_or_ge g w.heap.size with hlt | hge
  · exact hlt
  · unfold Blk at h; rw [Array.getElem?_eq_none hge] at h; cases h
theorem Blk.cell (h : Blk w g t cs) (i : Nat) : w.cell? ⟨g, i, none⟩ = cs[i]? := by
  rw [cell_of_row w g i cs.toArray t (0, 0) h]; simp
theorem Blk.frozen (h : Blk w g t cs) (i : Nat) : w.frozen? ⟨g, i, none⟩ = false := by
  unfold Blk at h
  simp [World.frozen?, h]
theorem Blk.new (w : World) (t : TypeId) (cs : Array Value) : Blk (w.alloc (.cells cs t)) w.heap.size t cs.toList := by
  unfold Blk; rw [Array.toArray_toList]; exact heap_alloc_new w _
theorem Blk.drew (h : Blk w g t cs) : Blk w.drew g t cs := h
theorem Blk.alloc (h : Blk w g t cs) (o : Obj) : Blk (w.alloc o) g t cs := (Below.heap_alloc w o g h.lt).trans h
theorem Blk.below {B : Nat} (h : Blk w g t cs) (hb : Below B w w') (hg : g < B) : Blk w' g t cs := (hb.block g hg).trans h
theorem Blk.under (h : Blk w g t cs) (hb : Below w.heap.size w w') : Blk w' g t cs := h.below hb h.lt
theorem Blk.grown {row : Option Nat} (h : Blk w g t cs) (hb : w.grownBy w' row) (hg : some g ≠ row) : Blk w' g t cs := (hb.block g h.lt hg).trans h
theorem Blk.ne_ {g' : Nat} {t' : TypeId} {cs' : List Value} (h : Blk w g t cs) (h' : Blk w g' t' cs') (hne : t ≠ t') : g ≠ g' := by
  rintro rfl
  unfold Blk at h h'
  rw [h] at h'
  injection h' with h'
  injection h' with _ ht
  exact hne ht
theorem Blk.set_ (h : Blk w g t cs) (i : Nat) (u : Value) : Blk (w.setCell ⟨g, i, none⟩ u) g t (cs.set i u) := by
  unfold Blk at h ⊢
  simp [World.setCell, Array.getElem?_modify, h]
theorem grownBy_setCell (w : World) (g i : Nat) (u : Value) : w.grownBy (w.setCell ⟨g, i, none⟩ u) (some g) :=
  ⟨rfl, rfl, rfl, by simp [World.setCell], fun k _ hne => Below.heap_setCell w _ u k (fun e => hne (by rw [e]))⟩
theorem grownBy_trans {a b c : World} {row : Option Nat} (h : a.grownBy b row) (k : b.grownBy c row) : a.grownBy c row :=
  ⟨k.os.trans h.os, k.tape.trans h.tape, k.output.trans h.output, Nat.le_trans h.size k.size, fun i hi hne => (k.block i (Nat.lt_of_lt_of_le hi h.size) hne).trans (h.block i hi hne)⟩
theorem grownBy_of_below {a b : World} (h : Below a.heap.size a b) (row : Option Nat) : a.grownBy b row := ⟨h.os, h.tape, h.output, h.size, fun k hk _ => h.block k hk⟩
theorem grownBy_drew (w : World) (row : Option Nat) : w.grownBy w.drew row := ⟨rfl, rfl, rfl, Nat.le_refl _, fun _ _ _ => rfl⟩
theorem below_of_grownBy {B : Nat} {a b : World} {g : Nat} (h : a.grownBy b (some g)) (hB : B ≤ a.heap.size) (hg : B ≤ g) : Below B a b :=
  ⟨h.os, h.tape, h.output, h.size, fun k hk => h.block k (by omega) (fun e => by injection e with e; omega)⟩
theorem grownBy_new {a b c : World} {row : Option Nat} {j : Nat} (h : a.grownBy b row) (k : b.grownBy c (some j)) (hj : a.heap.size ≤ j) : a.grownBy c row :=
  ⟨k.os.trans h.os, k.tape.trans h.tape, k.output.trans h.output, Nat.le_trans h.size k.size, fun i hi hne => (k.block i (Nat.lt_of_lt_of_le hi h.size) (fun e => by injection e with e; omega)).trans (h.block i hi hne)⟩
/-- Bytes of the call's own do not lie in a block of another element type. -/
theorem Own.ne {B c : Nat} {A : Option Addr} {l : List UInt8} (h : Own w B A c l) (hB : Blk w g t cs) (ht : t ≠ 5) : blk A ≠ some g := by
  rcases h.2 with ⟨hv, _⟩ | ⟨g', cap, cur, hv, _, hh, _⟩
  · injection hv with hv; subst hv; simp [blk]
  · injection hv with hv; subst hv
    intro he
    have : g' = g := by simpa [blk] using he
    subst this
    unfold Blk at hB
    rw [hB] at hh
    injection hh with hh
    injection hh with _ hh
    exact ht hh
theorem Reads.grown {size n : Nat} {A : Option Addr} {xs : List Value} {row : Option Nat} (h : Reads w size A n xs) (hg : w.grownBy w' row) (hne : blk A = none ∨ blk A ≠ row) : Reads w' size A n xs :=
  ⟨h.1, fun hn => by
    obtain ⟨b, o, e, hc⟩ := h.2 hn
    refine ⟨b, o, e, fun j u hu => (World.cell?_of_block (hg.block b (block_lt_of_cell (hc j u hu)) (fun e2 => ?_))).trans (hc j u hu)⟩
    subst e
    rcases hne with h1 | h1
    · cases h1
    · exact h1 e2⟩
theorem Rd.grown {A : Option Addr} {l : List UInt8} {row : Option Nat} (h : Rd w A l) (hg : w.grownBy w' row) (hne : blk A = none ∨ blk A ≠ row) : Rd w' A l := Reads.grown h hg hne

theorem run_store_blk {j : Nat} {v : Value} (h : Blk w g t cs) (hj : j < cs.length) (h1 : v.oneCell' = true) : (store ⟨g, j, none⟩ v).run P w = .ok () (w.setCell ⟨g, j, none⟩ v) := by
  have hc := h.cell j
  rw [List.getElem?_eq_getElem hj] at hc
  have := run_store P w ⟨g, j, none⟩ v .plain h1
  rw [this]
  simp [hc, h.frozen j]

theorem run_storeCells_blk {o : Nat} : ∀ (vs : List Value) (i : Nat) (L : List Value) (w : World), Blk w g t L → (∀ v ∈ vs, v.oneCell' = true) → o + i + vs.length ≤ L.length →
    ∃ w', (storeCells ⟨g, o, none⟩ vs i).run P w = .ok () w' ∧ Blk w' g t (spl L (o + i) vs) ∧ w.grownBy w' (some g) ∧ w'.heap.size = w.heap.size
  | [], i, L, w, h, _, _ => ⟨w, by simp [storeCells], by simpa [spl] using h, World.grownBy.refl w _, rfl⟩
  | v :: vs, i, L, w, h, h1, hl => by
    simp only [List.length_cons] at hl
    have hs := run_store_blk (P := P) (j := o + i) h (by omega) (h1 v (by simp))
    obtain ⟨w', hr, hB, hg, hz⟩ := run_storeCells_blk (o := o) vs (i + 1) (L.set (o + i) v) (w.setCell ⟨g, o + i, none⟩ v) (h.set_ (o + i) v) (fun u hu => h1 u (by simp [hu])) (by simp; omega)
    refine ⟨w', ?_, ?_, grownBy_trans (grownBy_setCell w g (o + i) v) hg, by rw [hz]; simp [World.setCell]⟩
    · simp only [storeCells, add_plain, Sem.run_bind, hs, Result.andThen_ok]
      exact hr
    · have e : spl (L.set (o + i) v) (o + (i + 1)) vs = spl L (o + i) (v :: vs) := by
        have hlt : o + i < L.length := by omega
        simp only [spl, List.length_cons]
        rw [show o + (i + 1) = (o + i) + 1 from by omega, List.take_succ_eq_append_getElem (by simpa using hlt), List.take_set_of_le (Nat.le_refl _), List.drop_set_of_lt (by omega)]
        simp [Nat.add_comm, Nat.add_left_comm, Nat.add_assoc]
      rw [← e]
      exact hB
end

section
variable {P : Program} {fn : Func} {F : Ending → World → Prop} {N : Nat} {ks : List K} {ops : Array Oper} {tg : Tags} {l : List Oper} {fr : Fr} {w : World} {ty t t' : TypeId} {pos : String} {aft : Array Edge} {gd : Option (Nat × Bool)} {d g i j n o len cap : Nat} {x y : Operand} {cs : List Value} {v : Value}

theorem o_loadb (ha' : ∀ w, (isAgg t).run P w = .ok false w) (hx : fr.ev x = some (.pointer (some ⟨g, i, none⟩))) (hB : Blk w g t' cs) (hi : cs[i]? = some v) : OpV P N fr w (.load t x) ty v w :=
  o_load ha' hx (by rw [hB.cell]; exact hi)
/-- A whole array or struct, read out of its block. -/
theorem o_load_all (ha' : ∀ w, (isAgg t).run P w = .ok true w) (hs : ∀ w, (sizeOf t).run P w = .ok n w) (hx : fr.ev x = some (.pointer (some ⟨g, 0, none⟩))) (hB : Blk w g t' cs) (hn : cs.length = n) : OpV P N fr w (.load t x) ty (.agg cs.toArray) w :=
  o_loadn ha' (by rw [hn]; exact hs) hx (fun j u hu => by rw [add_plain, hB.cell, Nat.zero_add]; exact hu)

/-- One cell of a block is written. -/
theorem wl_store1 (hs : ∀ w, (sizeOf t).run P w = .ok 1 w) (hx : fr.ev x = some (.pointer (some ⟨g, i, none⟩))) (hy : fr.ev y = some v) (h1 : v.oneCell' = true) (hB : Blk w g t' cs) (hi : i < cs.length)
    (hk : ∀ w', Blk w' g t' (cs.set i v) → w.grownBy w' (some g) → w'.heap.size = w.heap.size → WL P fn F N ks ops tg.tail l fr w') (ht : tg.loud = true := by rfl) (hg : onG ops fr gd = true := by rfl) (hq : tg.calm = false ∨ tg.rw.may (some g) := by exact .inl rfl) :
    WL P fn F N ks ops tg (⟨none, .store t x y, ty, pos, aft, gd⟩ :: l) fr w := by
  have hc := hB.cell i
  rw [List.getElem?_eq_getElem hi] at hc
  exact wl_u (o_store hs hx hy h1 hc (hB.frozen i)) (hk _ (hB.set_ i v) (grownBy_setCell w g i v) (by simp [World.setCell])) ht hg (hq.imp id (Rw.of_may (grownBy_setCell w g i v)))
/-- An array or a struct is written into a block. -/
theorem wl_storen {vs : List Value} (hs : ∀ w, (sizeOf t).run P w = .ok n w) (hx : fr.ev x = some (.pointer (some ⟨g, o, none⟩))) (hy : fr.ev y = some (.agg vs.toArray)) (hn : vs.length = n) (h1 : ∀ v ∈ vs, v.oneCell' = true) (hB : Blk w g t' cs) (hi : o + n ≤ cs.length)
    (hk : ∀ w', Blk w' g t' (spl cs o vs) → w.grownBy w' (some g) → w'.heap.size = w.heap.size → WL P fn F N ks ops tg.tail l fr w') (ht : tg.loud = true := by rfl) (hg : onG ops fr gd = true := by rfl) (hq : tg.calm = false ∨ tg.rw.may (some g) := by exact .inl rfl) :
    WL P fn F N ks ops tg (⟨none, .store t x y, ty, pos, aft, gd⟩ :: l) fr w := by
  obtain ⟨w', hr, hB', hg', hz⟩ := run_storeCells_blk (P := P) (o := o) vs 0 cs w hB h1 (by omega)
  refine wl_u (w' := w') (fun a ha op hop => ?_) (hk w' hB' hg' hz) ht hg (hq.imp id (Rw.of_may hg'))
  have hcs : (Value.agg vs.toArray).cells = vs.toArray := rfl
  simp [execOp, hop, ha.ev hx, ha.ev hy, Instr.storeAt, Instr.sureAddr, storeVar, hcs, hs, hn, hr]
/-- The whole of a block is written. -/
theorem wl_store_all {vs : List Value} (hs : ∀ w, (sizeOf t).run P w = .ok n w) (hx : fr.ev x = some (.pointer (some ⟨g, 0, none⟩))) (hy : fr.ev y = some (.agg vs.toArray)) (hn : vs.length = n) (h1 : ∀ v ∈ vs, v.oneCell' = true) (hB : Blk w g t' cs) (hi : cs.length = n)
    (hk : ∀ w', Blk w' g t' vs → w.grownBy w' (some g) → w'.heap.size = w.heap.size → WL P fn F N ks ops tg.tail l fr w') (ht : tg.loud = true := by rfl) (hg : onG ops fr gd = true := by rfl) (hq : tg.calm = false ∨ tg.rw.may (some g) := by exact .inl rfl) :
    WL P fn F N ks ops tg (⟨none, .store t x y, ty, pos, aft, gd⟩ :: l) fr w :=
  wl_storen hs hx hy hn h1 hB (by omega) (fun w' h2 h3 h4 => hk w' (by rw [spl_all (by omega)] at h2; exact h2) h3 h4) ht hg hq

/-- A new variable. -/
theorem o_alloc {e : TypeId} {z : Value} (hz : ∀ w, (zeroValue e).run P w = .ok z w) : OpV P N fr w (.alloc e) ty (.pointer (some ⟨w.heap.size, 0, none⟩)) (w.alloc (.cells z.cells e)) := fun a _ o ho _ => by
  simp [execOp, ho, Instr.alloc, newVar, newRow, newObj, Sem.run, hz]

theorem below_alloc (w : World) (o : Obj) : Below w.heap.size w (w.alloc o) := (Below.refl _ _).alloc (Nat.le_refl _) o
theorem wl_alloc {e : TypeId} {z : Value} (zs : List Value) (hz : ∀ w, (zeroValue e).run P w = .ok z w) (hzs : z.cells = zs.toArray)
    (hk : ∀ w', Blk w' w.heap.size e zs → Below w.heap.size w w' → w'.heap.size = w.heap.size + 1 → WL P fn F N ks ops tg.tail l ((d, .pointer (some ⟨w.heap.size, 0, none⟩)) :: fr) w')
    (ht : tg.loud = true := by rfl) (hg : onG ops fr gd = true := by rfl) (hd : Nat.blt d N = true := by rfl) : WL P fn F N ks ops tg (⟨some d, .alloc e, ty, pos, aft, gd⟩ :: l) fr w :=
  wl_v (o_alloc hz) (hk _ (by rw [hzs]; exact Blk.new w e zs.toArray) (below_alloc w _) (by simp)) ht hg hd (.inr (grown_of_below (below_alloc w _) _))
theorem wl_box {e : TypeId} (vs : List Value) (hx : fr.ev x = some v) (hvs : v.cells = vs.toArray)
    (hk : ∀ w', Blk w' w.heap.size e vs → Below w.heap.size w w' → w'.heap.size = w.heap.size + 1 → WL P fn F N ks ops tg.tail l ((d, .pointer (some ⟨w.heap.size, 0, none⟩)) :: fr) w')
    (ht : tg.loud = true := by rfl) (hg : onG ops fr gd = true := by rfl) (hd : Nat.blt d N = true := by rfl) : WL P fn F N ks ops tg (⟨some d, .box e x, ty, pos, aft, gd⟩ :: l) fr w :=
  wl_v (o_box hx) (hk _ (by rw [hvs]; exact Blk.new w e vs.toArray) (below_alloc w _) (by simp)) ht hg hd (.inr (grown_of_below (below_alloc w _) _))
/-! A slice literal whose elements are one cell each, in order. -/
theorem fill_range {place : Nat → Option (Nat × Nat)} (hp : ∀ i, place i = some (i * 1, 1)) : ∀ (vs : List Value) (k : Nat) (cells : List Value), (∀ v ∈ vs, v.oneCell' = true) → k + vs.length = cells.length →
    Instr.fill place cells.toArray ((List.range' k vs.length).zip vs) = some (cells.take k ++ vs).toArray
  | [], k, cells, _, hl => by
    simp only [List.length_nil, Nat.add_zero] at hl
    simp [Instr.fill, hl]
  | v :: vs, k, cells, h1, hl => by
    simp only [List.length_cons] at hl
    have hv : v.cells = #[v] := by
      have := h1 v (by simp)
      cases v <;> first | rfl | cases this
    have ih := fill_range hp vs (k + 1) (cells.set k v) (fun u hu => h1 u (by simp [hu])) (by simp; omega)
    simp only [List.length_cons, List.range'_succ, List.zip_cons_cons, Instr.fill, hp, hv]
    rw [if_neg (by simp; omega)]
    have e : (#[v].zipIdx.foldl (fun (cs : Array Value) (x : Value × Nat) => cs.setIfInBounds (k * 1 + x.2) x.1) cells.toArray) = (cells.set k v).toArray := by simp
    have e2 : (#[v].zipIdx.foldl (fun cs (x : Value × Nat) => match x with | (c, j) => cs.setIfInBounds (k * 1 + j) c) cells.toArray) = (cells.set k v).toArray := by simp
    rw [show List.take k cells ++ v :: vs = List.take (k + 1) (cells.set k v) ++ vs from ?_]
    · first | (rw [e2]; exact ih) | (rw [e]; exact ih) | (simpa using ih)
    · rw [List.take_succ_eq_append_getElem (by simp; omega), List.take_set_of_le (Nat.le_refl _)]; simp
theorem run_lit {e : TypeId} {z : Value} (hu : P.underlying t = some (.slice e)) (hs : ∀ w, (sizeOf e).run P w = .ok 1 w) (hz : ∀ w, (zeroValue e).run P w = .ok z w) (h0 : z.cells.size = 1) (vs : List Value) (h1 : ∀ v ∈ vs, v.oneCell' = true) (hn : vs.length ≤ 16777216) :
    (Instr.buildSlice t vs.length ((List.range' 0 vs.length).zip vs).toArray).run P w = .ok (.slice (some ⟨w.heap.size, 0, none⟩) vs.length vs.length) (w.alloc (.cells vs.toArray e)) := by
  have hf : ∀ (cells : Array Value), cells.size = vs.length → Instr.fill (fun i => some (i * 1, 1)) cells ((List.range' 0 vs.length).zip vs) = some vs.toArray := fun cells hc => by
    have := fill_range (place := fun i => some (i * 1, 1)) (fun _ => rfl) vs 0 cells.toList h1 (by simp [hc])
    simpa using this
  have hn' : ¬ (16777216 < vs.length) := by omega
  by_cases hv : vs.length = 0
  · have hv' : vs = [] := List.eq_nil_of_length_eq_zero hv
    subst hv'
    simp [Instr.buildSlice, run_underlying hu, hs, Instr.fill, newRow, newObj, Sem.run, show Array.range 0 = #[] from rfl]
  · simp [Instr.buildSlice, run_underlying hu, hs, hz, hn', hv, newRow, newObj, Sem.run]
    have h2 := hf (Array.map (fun x => z.cells[x % z.cells.size]!) (Array.range vs.length)) (by simp)
    simp only [Nat.mul_one] at h2
    simp [h2, newRow, newObj, Sem.run]
/-- A slice literal of bytes. -/
theorem wl_lit8 {xs : List Operand} (bs : List UInt8) (T : U8 P t) (hs : ∀ w, (sizeOf 5).run P w = .ok 1 w) (hz : ∀ w, (zeroValue 5).run P w = .ok (.int .u8 0) w) (hx : fr.evs xs = some (B8 bs)) (hm : Nat.ble bs.length 1000000 = true)
    (hk : ∀ w', Own w' w.heap.size (some ⟨w.heap.size, 0, none⟩) bs.length bs → Below w.heap.size w w' → w'.heap.size = w.heap.size + 1 → WL P fn F N ks ops tg.tail l ((d, .slice (some ⟨w.heap.size, 0, none⟩) bs.length bs.length) :: fr) w')
    (ht : tg.loud = true := by rfl) (hg : onG ops fr gd = true := by rfl) (hd : Nat.blt d N = true := by rfl) : WL P fn F N ks ops tg (⟨some d, .buildSlice t bs.length ((List.range' 0 bs.length).zip xs).toArray, ty, pos, aft, gd⟩ :: l) fr w := by
  have hm' : bs.length ≤ 1000000 := by simpa using hm
  have hr := run_lit (P := P) (w := w) T.ht hs hz rfl (B8 bs) (B8_oneCell _) (by rw [B8_length]; omega)
  rw [B8_length] at hr
  exact wl_v (o_lit hx hr) (hk _ (own_lit w (Nat.le_refl _) bs _ rfl (by simp only [maxLen]; omega)) (below_alloc w _) (by simp)) ht hg hd (.inr (grown_of_below (below_alloc w _) _))

theorem B8_oneCell' (l : List UInt8) : ∀ v ∈ B8 l, v.oneCell' = true := B8_oneCell l
/-- The empty slice literal. -/
theorem own_empty (w : World) {B : Nat} (hB : B ≤ w.heap.size) (cs : Array Value) (h : cs = #[]) : Own (w.alloc (.cells cs 5)) B (some ⟨w.heap.size, 0, none⟩) 0 [] := own_lit w hB [] cs (by rw [h]; rfl) (by simp [maxLen])

/-- 'slice to array': the address. -/
theorem o_arrptr {e : TypeId} {A : Option Addr} (hu : P.underlying t = some (.array n e)) (hx : fr.ev x = some (.slice A len cap)) (h : n ≤ len) : OpV P N fr w (.sliceToArrayPointer t x) ty (.pointer A) w := fun a ha o ho _ => by
  have : ¬ len < n := by omega
  simp [execOp, ho, ha.ev hx, Instr.arrayAt, run_underlying hu, this]
/-- 'a[:]' of an array in a variable. -/
theorem o_slice_arr {e : TypeId} {ad : Addr} (hu : P.underlying t = some (.array n e)) (hs : ∀ w, (sizeOf e).run P w = .ok 1 w) (hx : fr.ev x = some (.pointer (some ad))) : OpV P N fr w (.slice t x none none none) ty (.slice (some ad) n n) w := fun a ha o ho _ => by
  simp [execOp, ho, ha.ev hx, Instr.sliceAt, Instr.sureAddr, run_underlying hu, Instr.sliceBounds, hs, Addr.add]

/-- '==' on arrays of bytes. -/
theorem o_aeq {e : TypeId} {xs ys : List UInt8} (hu : P.underlying t = some (.array n e)) (he : P.underlying e = some (.int .u8)) (hs : ∀ w, (sizeOf e).run P w = .ok 1 w) (hm : P.eqGuardType P.depth t = false)
    (hx : fr.ev x = some (.agg (B8 xs).toArray)) (hy : fr.ev y = some (.agg (B8 ys).toArray)) (h1 : xs.length = n) (h2 : ys.length = n) : OpV P N fr w (.binOp .eql t x y t') ty (.bool (decide (xs = ys))) w := fun a ha o ho _ => by
  have hr := run_eql_bytes (P := P) (w := w) t e n hu he hs xs ys h1 h2
  have hg := run_eqGuard_agg (P := P) (w := w) .eql t x y (B8 xs).toArray (B8 ys).toArray hm
  have hr' : (binOp .eql t (.agg (B8 xs).toArray) (.agg (B8 ys).toArray)).run P w = .ok (.bool (decide (xs = ys))) w := by
    have e : (xs == ys) = decide (xs = ys) := by rw [Bool.eq_iff_iff]; simp
    rw [← e]; exact hr
  simp [execOp, ho, ha.ev hx, ha.ev hy, hg, hr']
theorem o_ane {e : TypeId} {xs ys : List UInt8} (hu : P.underlying t = some (.array n e)) (he : P.underlying e = some (.int .u8)) (hs : ∀ w, (sizeOf e).run P w = .ok 1 w) (hm : P.eqGuardType P.depth t = false)
    (hx : fr.ev x = some (.agg (B8 xs).toArray)) (hy : fr.ev y = some (.agg (B8 ys).toArray)) (h1 : xs.length = n) (h2 : ys.length = n) : OpV P N fr w (.binOp .neq t x y t') ty (.bool (decide (xs ≠ ys))) w := fun a ha o ho _ => by
  have hr := run_equalIn_bytes (P := P) (w := w) 9998 t e n hu he hs xs ys h1 h2
  have hg := run_eqGuard_agg (P := P) (w := w) .neq t x y (B8 xs).toArray (B8 ys).toArray hm
  have hr' : (binOp .neq t (.agg (B8 xs).toArray) (.agg (B8 ys).toArray)).run P w = .ok (.bool (decide (xs ≠ ys))) w := by
    have e : (!(xs == ys)) = decide (xs ≠ ys) := by rw [Bool.eq_iff_iff]; simp
    rw [run_neq_struct, ← e]
    exact congrArg (fun r => Result.andThen r fun b w' => Result.ok (Value.bool (!b)) w') hr
  simp [execOp, ho, ha.ev hx, ha.ev hy, hg, hr']

theorem o_compl8 {n : Int} (hx : fr.ev x = some (.int .u8 n)) : OpV P N fr w (.unOp .xor t x) ty (.int .u8 (bits .xor .u8 255 n)) w := fun a ha o ho _ => by
  simp [execOp, ho, ha.ev hx, Op.unary, Op.intBits]
  rfl

/-- A result that lies in a variable of its own. -/
theorem ret_cell {p : Nat} {R : Value → World → Prop} (h : fn.results = #[.cell p t]) (hp : fr.get p = some (.pointer (some ⟨g, 0, none⟩))) (ha' : ∀ w, (isAgg t).run P w = .ok true w) (hs : ∀ w, (sizeOf t).run P w = .ok n w) (hB : Blk w g t' cs) (hn : cs.length = n)
    (hR : R (.agg cs.toArray) w) : RK P fn (fun e w' => ∃ v, e = .returned v ∧ R v w') N (.code .ret :: ks) fr w :=
  rk_ret (F := fun e w' => ∃ v, e = .returned v ∧ R v w') (fun a ha => ⟨.agg cs.toArray, by
    have hp' : a.tmps[p]?.getD undef = .pointer (some ⟨g, 0, none⟩) := by rw [ha.get p _ hp]; rfl
    subst hn
    have hl : (loadCells ⟨g, 0, none⟩ cs.length).run P w = .ok cs.toArray w := run_loadCells_list (P := P) w ⟨g, 0, none⟩ cs (fun j u hu => by rw [add_plain, hB.cell, Nat.zero_add]; exact hu)
    simp [results, h, hp', asAddr, loadVar, ha', hs, hl], ⟨_, rfl, hR⟩⟩)
end

/-! copy. -/
section
variable {P : Program} {fn : Func} {F : Ending → World → Prop} {N : Nat} {ks : List K} {ops : Array Oper} {tg : Tags} {l : List Oper} {fr : Fr} {w : World} {ty t t' t2 : TypeId} {pos : String} {aft : Array Edge} {gd : Option (Nat × Bool)} {d g o n c m k : Nat} {x y : Operand} {cs : List Value}
theorem run_firstCells {A : Option Addr} {s : List UInt8} (hr : Rd w A s) {q : Nat} (hq : q ≤ s.length) : (Builtin.firstCells 1 q (.slice A s.length k)).run P w = .ok (B8 (s.take q)).toArray w := by
  rcases Nat.eq_zero_or_pos q with h0 | h0
  · subst h0; cases A <;> simp [Builtin.firstCells, B8, loadCells, loadCellsFrom]
  · have hne : s ≠ [] := by intro e; subst e; simp at hq; omega
    obtain ⟨b, o, rfl, _, hc⟩ := hr.at_ hne
    have := run_loadCells_list (P := P) w ⟨b, o, none⟩ (B8 (s.take q)) (fun j u hu => by
      have hj : j < (s.take q).length := by
        rcases Nat.lt_or_ge j (s.take q).length with h | h
        · exact h
        · rw [List.getElem?_eq_none (by rw [B8_length]; exact h)] at hu; cases hu
      rw [B8_get _ _ hj] at hu
      have hj' : j < s.length := by simp at hj; omega
      rw [add_plain, hc j hj', ← hu]
      simp)
    rw [B8_length, List.length_take, Nat.min_eq_left hq] at this
    simp [Builtin.firstCells, this]
theorem wl_copy (T : U8 P t) {A : Option Addr} {s : List UInt8} (hx : fr.ev x = some (.slice (some ⟨g, o, none⟩) n c)) (hy : fr.ev y = some (.slice A m k)) (hm : m = s.length) (hr : Rd w A s) (hB : Blk w g t' cs) (hi : o + n ≤ cs.length)
    (h : ∀ w', Blk w' g t' (spl cs o (B8 (s.take n))) → w.grownBy w' (some g) → w'.heap.size = w.heap.size → WL P fn F N ks ops tg.tail l ((d, .int .i64 (min m n : Nat)) :: fr) w')
    (ht : tg.loud = true := by rfl) (hg : onG ops fr gd = true := by rfl) (hd : Nat.blt d N = true := by rfl) (hq : tg.calm = false ∨ some g = tg.row := by exact .inl rfl) :
    WL P fn F N ks ops tg (⟨some d, .call { callee := .builtin .copy, args := #[x, y], argTypes := #[t, t2] }, ty, pos, aft, gd⟩ :: l) fr w := by
  subst hm
  obtain ⟨i, hi', hz, hsz, hb⟩ := info_parts T.hi
  have hf := run_firstCells (P := P) (k := k) hr (q := min s.length n) (Nat.min_le_left _ _)
  have htk : s.take (min s.length n) = s.take n := by
    rcases Nat.le_total s.length n with h1 | h1
    · rw [Nat.min_eq_left h1, List.take_of_length_le (Nat.le_refl _), List.take_of_length_le h1]
    · rw [Nat.min_eq_right h1]
  rw [htk] at hf
  obtain ⟨w', hst, hB', hg', hz'⟩ := run_storeCells_blk (P := P) (o := o) (B8 (s.take n)) 0 cs w hB (B8_oneCell _) (by rw [B8_length, List.length_take]; omega)
  refine wl_v (w' := w') (o_builtin (xs := [x, y]) (vs := [.slice (some ⟨g, o, none⟩) n c, .slice A s.length k]) (by simp [Fr.evs, hx, hy]) ?_ (by simp)) (h w' hB' hg' hz') ht hg hd (hq.imp id fun (e : some g = tg.row) => e ▸ hg')
  have hmin : Nat.min s.length n = min s.length n := rfl
  simp [builtin, Builtin.copy_, run_underlying T.ht, sizeOf, typeInfo, hi', hsz, Builtin.lenOf, hmin, hf, hst]
  rfl
end
end Go.Proofs.YtklijaahbahcoaaDoor
/-
  From a walk to a law's statement: the law returns true, nothing that was there has changed.
-/
namespace Go.Proofs.YtklijaahbahcoaaDoor
set_option maxRecDepth 100000
open Go.ChangeShapes Go.WideShapes Go.ChangeAt Go.RowKit

theorem Tryd.own : ownKnob Tryd.prog.godebug = none := by kernel_rfl
theorem Tryd.laidOut : laidOutB Tryd.prog = true := by kernel_rfl

section
variable {H : Type} {enc : TypeId × Value → H} {P : Program}
theorem trodAll_stays (hl : laidOutB P = true) {W W' : World} (hb : Below W.heap.size W W') : ∀ (ts : List TypeId) (vs : List Value) (ds : List (DataW H)) (ps : List MemPlace),
    ts.all (fun t => P.readableRec t && decide (t < P.types.size)) = true → DataW.TrodAll enc P W 0 (fun _ => true) true ts vs ds ps → (∀ x ∈ ps, x.block < W.heap.size) → ∀ sp : Nat → Bool, (∀ x ∈ ps, sp x.block = true) →
    DataW.TrodAll enc P W' 0 sp true ts vs ds ps
  | [], [], [], _, _, h, _, _, _ => h
  | t :: ts, v :: vs, d :: ds, ps, hr, h, hlt, sp, hsp => by
    obtain ⟨p, q, h1, h2, rfl⟩ := h
    simp only [List.all_cons, Bool.and_eq_true, decide_eq_true_eq] at hr
    refine ⟨p, q, WideElems.Trod_stays hl hr.1.1 hr.1.2 h1 (fun x hx => hb.same (hlt x (by simp [hx]))) (fun x hx => hsp x (by simp [hx])), ?_, rfl⟩
    exact trodAll_stays hl hb ts vs ds q hr.2 h2 (fun x hx => hlt x (by simp [hx])) sp (fun x hx => hsp x (by simp [hx]))
  | [], [], _ :: _, _, _, h, _, _, _ => h.elim
  | [], _ :: _, _, _, _, h, _, _, _ => h.elim
  | _ :: _, [], _, _, _, h, _, _, _ => h.elim
  | _ :: _, _ :: _, [], _, _, h, _, _, _ => h.elim

theorem post_of_below {f : Func} {s : ChangeSpec} {apart fresh handsOn again : Bool} {W W' : World} {args : Array Value} {v : Value} {ds gs : List (DataW H)} {before pa pv : List MemPlace}
    (hW : DataW.Whole enc P f.params.toList s.vars apart W args.toList ds gs before)
    (hres : ∀ (b : Nat) (sp : Nat → Bool) (hd : Bool), DataW.TrodAll enc P W' b sp hd f.resultTypes.toList (v.resultList f.resultTypes.size) (s.fn H (ds ++ gs)).results [])
    (hargs : ∀ sp : Nat → Bool, (∀ p ∈ before, sp p.block = true) → DataW.TrodAll enc P W' 0 sp true f.params.toList args.toList (s.fn H (ds ++ gs)).args pa)
    (hvars : ∀ sp : Nat → Bool, (∀ p ∈ before, sp p.block = true) → DataW.TrodVars enc P W' sp s.vars (s.fn H (ds ++ gs)).vars pv)
    (hps : before = pa ++ pv) (hb : Below W.heap.size W W')
    (hok : ∀ (j : Nat) (t : TypeId) (r : Value), f.resultTypes[j]? = some t → (v.resultList f.resultTypes.size)[j]? = some r → Value.okWide P W' .any 0 t r) :
    s.post enc P f apart fresh handsOn again W args v W' := by
  have hlt : ∀ p ∈ before, p.block < W.heap.size := fun p hp => hW.lt p hp
  have hold : ∀ p ∈ before, (fun b => decide (b < W.heap.size)) p.block = true := fun p hp => by simpa using hlt p hp
  refine ⟨ds, gs, before, [], pa, pv, hW, hres _ _ _, hargs _ hold, hvars _ hold, World.keptBut_mono (fun p hp => ⟨hp, ?_⟩) (hb.frame (· ∈ before)), fun _ => ?_⟩
  · rw [hps, List.mem_append] at hp
    exact Or.inr hp
  · obtain ⟨_, _, _, _, _, hz, hn⟩ := hW
    refine ⟨hok, _, _, ([] ++ pa) ++ pv, ⟨[] ++ pa, pv, trodAll_append (hargs _ (fun _ _ => rfl)) (hres _ _ _), hvars _ (fun _ _ => rfl), rfl, ?_, ?_⟩, ?_⟩
    · intro b off hp
      have hin : MemPlace.cell b off ∈ before := by rw [hps]; simpa using hp
      rw [hb.frozen (hlt _ hin)]
      exact hz b off hin
    · intro ha
      have := hn ha
      rw [hps] at this
      simpa using this
    · intro p hp _
      rw [hps]
      simpa using hp

/-- A law's end: true is returned, the arguments read as they read. -/
theorem law_post (hl : laidOutB P = true) {f : Func} {s : ChangeSpec} {handsOn again : Bool} {W W' : World} {args : Array Value} {ds : List (DataW H)} {p : List MemPlace} (hrt : f.resultTypes = #[4]) (hu : P.underlying 4 = some .bool) (hvs : s.vars = [])
    (hread : f.params.toList.all (fun t => P.readableRec t && decide (t < P.types.size)) = true)
    (hfn : s.fn H ds = { results := [.lit (.bool true)], args := ds })
    (hW : DataW.Whole enc P f.params.toList s.vars false W args.toList ds [] p) (hA : DataW.TrodAll enc P W 0 (fun _ => true) true f.params.toList args.toList ds p) (hb : Below W.heap.size W W') :
    s.post enc P f false true handsOn again W args (.bool true) W' := by
  have hlt : ∀ x ∈ p, x.block < W.heap.size := fun x hx => hW.lt x hx
  refine post_of_below (pa := p) (pv := []) hW ?_ ?_ ?_ (by simp) hb ?_
  · intro b sp hd
    rw [List.append_nil, hfn, hrt]
    exact trodAll_cons_mk (shut_bool hu true) trodAll_mk0
  · intro sp hsp
    rw [List.append_nil, hfn]
    exact trodAll_stays hl hb _ _ _ _ hread hA hlt sp hsp
  · intro sp _
    rw [List.append_nil, hfn, hvs]
    rfl
  · intro j t r h1 h2
    rw [hrt] at h1 h2
    match j, h1, h2 with
    | 0, h1, h2 =>
      have e1 : t = 4 := by simpa using h1.symm
      have e2 : r = .bool true := by simpa [Value.resultList] using h2.symm
      subst e1; subst e2
      exact okWide_bool_mk hu true
    | j + 1, h1, _ => simp at h1
end

/-! Arguments, opened. -/
theorem spot_of_cell {w : World} {a : Addr} {v : Value} (h : w.cell? a = some v) : a = ⟨a.block, a.off, none⟩ := by
  unfold World.cell? at h
  split at h
  · split at h
    · cases h
    · rename_i hs
      cases a with
      | mk b o s => cases s <;> simp at hs ⊢
  · cases h
theorem reads_of_cells {w : World} {a : Addr} {xs : List Value} (h : ∀ i v, xs[i]? = some v → w.cell? (a.add i) = some v) : Reads w 1 (some a) xs.length xs := by
  refine ⟨by simp, fun hn => ?_⟩
  have h0 : ∃ v, xs[0]? = some v := by
    cases xs with
    | nil => exact absurd rfl hn
    | cons x _ => exact ⟨x, rfl⟩
  obtain ⟨v0, hv0⟩ := h0
  have hc := h 0 v0 hv0
  have ha : a.add 0 = a := by simp [Addr.add]
  rw [ha] at hc
  have hs := spot_of_cell hc
  exact ⟨a.block, a.off, by rw [← hs], fun j u hu => by rw [← add_plain, ← hs]; exact h j u hu⟩

section
variable {H : Type} {enc : TypeId × Value → H} {P : Program} {W : World} {base : Nat}
theorem open_nums {t e : TypeId} {k : IntKind} (hu : P.underlying t = some (.slice e)) (he : P.underlying e = some (.int k)) (hc : P.cellsOf e = 1) {v : Value} {d : DataW H} {p : List MemPlace} (hok : Value.okWide P W .any base t v)
    (h : DataW.Trod enc P W 0 (fun _ => true) true t v d p) : ∃ (A : Option Addr) (c : Nat) (zs : List Int), v = .slice A zs.length c ∧ Reads W 1 A zs.length (zs.map (Value.int k)) ∧ zs.length ≤ c ∧ c ≤ maxLen ∧ ∀ n ∈ zs, (Lit.int k n).wf = true := by
  obtain ⟨a0, len, cap, rfl⟩ := okWide_slice hu hok
  obtain ⟨fuel, hf⟩ := h
  rcases open_ints hu he hc hf with ⟨hcs, hx⟩ | ⟨a, len', cap', zs, hcs, _, hl, hm, hz, hx, hcell, hwz⟩
  · have e : (Value.slice a0 len cap) = .slice none 0 0 := by simpa [Value.cells] using hcs
    injection e with e1 e2 e3
    subst e1; subst e2; subst e3
    exact ⟨none, 0, [], rfl, Reads.none_ _ _ _, Nat.le_refl _, Nat.zero_le _, fun n hn => by cases hn⟩
  · have e : (Value.slice a0 len cap) = .slice (some a) len' cap' := by simpa [Value.cells] using hcs
    injection e with e1 e2 e3
    subst e1; subst e2; subst e3
    have hzl : zs.length = cap := by simpa using hz
    have htl : (zs.take len).length = len := by rw [List.length_take]; omega
    refine ⟨some a, cap, zs.take len, by rw [htl], ?_, by omega, hm, fun n hn => hwz n (List.mem_of_mem_take hn)⟩
    have := reads_of_cells (w := W) (a := a) (xs := (zs.take len).map (Value.int k)) (fun i v hv => by
      have hi : i < (zs.take len).length := by
        rcases Nat.lt_or_ge i (zs.take len).length with h | h
        · exact h
        · rw [List.getElem?_eq_none (by simpa using h)] at hv; cases hv
      rw [hcell i (by omega)]
      have hi2 : i < zs.length := by omega
      rw [List.getElem?_map, List.getElem?_take_of_lt (by omega), List.getElem?_eq_getElem hi2] at hv
      rw [← Option.some.inj hv]
      simp [hi2])
    simpa using this
theorem open_bytes {t : TypeId} (hu : P.underlying t = some (.slice 5)) (he : P.underlying 5 = some (.int .u8)) (hc : P.cellsOf 5 = 1) {v : Value} {d : DataW H} {p : List MemPlace} (hok : Value.okWide P W .any base t v)
    (h : DataW.Trod enc P W 0 (fun _ => true) true t v d p) : ∃ (A : Option Addr) (c : Nat) (l : List UInt8), v = .slice A l.length c ∧ Rd W A l ∧ l.length ≤ c ∧ c ≤ maxLen := by
  obtain ⟨A, c, zs, rfl, hr, hl, hm, hw⟩ := open_nums hu he hc hok h
  have hb : ∀ n ∈ zs, n = (((UInt8.ofNat n.toNat).toNat : Nat) : Int) := fun n hn => by
    have h1 := hw n hn
    have h2 : 0 ≤ n ∧ n ≤ 255 := by
      have := bounds_u8 h1
      omega
    exact byte_of n h2.1 h2.2
  have e : zs.map (Value.int .u8) = B8 (zs.map fun n => UInt8.ofNat n.toNat) := by
    unfold B8
    rw [List.map_map]
    exact List.map_congr_left fun n hn => by simp only [Function.comp]; rw [← hb n hn]
  refine ⟨A, c, zs.map fun n => UInt8.ofNat n.toNat, by simp, ?_, by simpa using hl, hm⟩
  unfold Rd
  rw [← e, List.length_map]
  exact hr
theorem bytes_of_vals : ∀ cs : List Value, (∀ v ∈ cs, ∃ m : Int, v = .int .u8 m ∧ 0 ≤ m ∧ m ≤ 255) → ∃ l : List UInt8, cs = B8 l
  | [], _ => ⟨[], rfl⟩
  | v :: cs, h => by
    obtain ⟨l, rfl⟩ := bytes_of_vals cs fun u hu => h u (by simp [hu])
    obtain ⟨m, rfl, h0, h1⟩ := h _ (List.mem_cons_self ..)
    exact ⟨UInt8.ofNat m.toNat :: l, by simp only [B8, List.map_cons]; rw [← byte_of m h0 h1]⟩
/-- An array of bytes, opened. -/
theorem open_arr8 {t : TypeId} {n : Nat} (hu : P.underlying t = some (.array n 5)) (he : P.underlying 5 = some (.int .u8)) (hct : P.cellTypes P.depth t = some (List.replicate n 5)) (hc : P.cellsOf t = n) {v : Value} (hok : Value.okWide P W .any base t v) :
    ∃ l : List UInt8, v = .agg (B8 l).toArray ∧ l.length = n := by
  simp only [Value.okWide, hu] at hok
  obtain ⟨cs, rfl, hs, ts, hts, -, hcell⟩ := hok
  rw [hct] at hts
  obtain rfl := Option.some.inj hts
  obtain ⟨l, hl⟩ := bytes_of_vals cs.toList (fun v hv => by
    obtain ⟨i, hi, rfl⟩ := List.mem_iff_getElem.1 hv
    have hi' : i < cs.size := by simpa using hi
    obtain ⟨u, hu1, hu2⟩ := hcell i _ (Array.getElem?_eq_getElem hi')
    have h5 : u = 5 := by
      rw [List.getElem?_replicate] at hu1
      split at hu1
      · exact (Option.some.inj hu1).symm
      · cases hu1
    subst h5
    rw [Array.getElem_toList]
    generalize cs[i] = v at hu2 ⊢
    simp only [Cell.okWide, he] at hu2
    cases v <;> simp only [Cell.ok, he] at hu2
    obtain ⟨rfl, h1, h2⟩ := hu2
    exact ⟨_, rfl, h1, h2⟩)
  refine ⟨l, by rw [← hl], ?_⟩
  have := congrArg List.length hl
  rw [B8_length] at this
  rw [← this, ← hc, ← hs]
  simp
end
end Go.Proofs.YtklijaahbahcoaaDoor
/-
  Bytes.
-/
namespace Go.Proofs.YtklijaahbahcoaaDoor
set_option maxRecDepth 100000
abbrev By := List UInt8
end Go.Proofs.YtklijaahbahcoaaDoor
/-
  Where ways meet again: joins. No function of the program is named here.
-/
namespace Go.Proofs.YtklijaahbahcoaaDoor
set_option maxRecDepth 100000
open Go.RowKit
section
variable {P : Program} {fn : Func} {F : Ending → World → Prop} {N : Nat} {ks : List K} {k : K} {ops : Array Oper} {l : List Oper} {fr : Fr} {w : World} {tg : Tags}

/-- All ways through k come to a state of R; from there it goes on once. -/
theorem rk_join (R : Fr → World → Prop) (h2 : ∀ fr w, R fr w → RK P fn F N ks fr w) (h1 : ∀ ks, (∀ fr w, R fr w → RK P fn F N ks fr w) → RK P fn F N (k :: ks) fr w) : RK P fn F N (k :: ks) fr w := h1 ks h2
theorem rk_joinb {id : Nat} (R : Fr → World → Prop) (h2 : ∀ fr w, R fr w → RK P fn F N ks fr w) (h1 : ∀ ks, (∀ fr w, R fr w → RK P fn F N ks fr w) → RK P fn F N (k :: .blk id :: ks) fr w) : RK P fn F N (k :: .blk id :: ks) fr w := h1 ks h2
/-- The same where a way may leave by what lies beneath (a loop's round, an outer block). -/
theorem rk_joinc (R : Fr → World → Prop) (h2 : ∀ fr w, R fr w → RK P fn F N ks fr w) (h1 : (∀ fr w, R fr w → RK P fn F N ks fr w) → RK P fn F N (k :: ks) fr w) : RK P fn F N (k :: ks) fr w := h1 h2
theorem rk_to {R : Fr → World → Prop} (hj : ∀ fr w, R fr w → RK P fn F N ks fr w) {fr0 : Fr} (hs : Fr.sub fr0 fr) (h : R fr0 w) : RK P fn F N ks fr w := (hj fr0 w h).sub hs

/-- The same within a region: all ways through the next n operations come to a state of R. -/
def Tags.tails : Nat → Tags → Tags
  | 0, tg => tg
  | n + 1, tg => Tags.tails n tg.tail
theorem wl_join (n : Nat) (R : Fr → World → Prop) (h2 : ∀ fr w, R fr w → WL P fn F N ks ops (Tags.tails n tg) (l.drop n) fr w) (h1 : (∀ fr w, R fr w → WL P fn F N ks ops (Tags.tails n tg) (l.drop n) fr w) → WL P fn F N ks ops tg l fr w) : WL P fn F N ks ops tg l fr w := h1 h2
theorem wl_to {R : Fr → World → Prop} (hj : ∀ fr w, R fr w → WL P fn F N ks ops tg l fr w) {fr0 : Fr} (hs : Fr.sub fr0 fr) (h : R fr0 w) : WL P fn F N ks ops tg l fr w := fun a ha => hj fr0 w h a (ha.sub hs)

section
variable {x y : Operand} {m n : Int} {t t' ty : TypeId} {ik : IntKind}
theorem o_remz (hx : fr.ev x = some (.int ik m)) (hy : fr.ev y = some (.int ik n)) (h : n ≠ 0) : OpV P N fr w (.binOp .rem t x y t') ty (.int ik (m.tmod n)) w := o_bin hx hy eqg_int (by
  rw [binOp_rem]
  simp [Op.intDiv, h])
theorem o_remu (hx : fr.ev x = some (.int ik m)) (hy : fr.ev y = some (.int ik n)) (h0 : 0 ≤ m) (h2 : 0 < n) : OpV P N fr w (.binOp .rem t x y t') ty (.int ik (m % n)) w := o_bin hx hy eqg_int (by
  rw [binOp_rem]
  have hne : n ≠ 0 := by omega
  have e : m.tmod n = m % n := Int.tmod_eq_emod_of_nonneg h0
  simp [Op.intDiv, hne, e])
theorem o_quoz (hx : fr.ev x = some (.int ik m)) (hy : fr.ev y = some (.int ik n)) (h : n ≠ 0) : OpV P N fr w (.binOp .quo t x y t') ty (.int ik (ik.wrap (m.tdiv n))) w := o_bin hx hy eqg_int (by
  rw [binOp_quo]
  simp [Op.intDiv, h])
theorem o_quou (hx : fr.ev x = some (.int ik m)) (hy : fr.ev y = some (.int ik n)) (h0 : 0 ≤ m) (h2 : 0 < n) : OpV P N fr w (.binOp .quo t x y t') ty (.int ik (ik.wrap (m / n))) w := o_bin hx hy eqg_int (by
  rw [binOp_quo]
  have hne : n ≠ 0 := by omega
  have e : m.tdiv n = m / n := Int.tdiv_eq_ediv_of_nonneg h0
  simp [Op.intDiv, hne, e])
end
end
end Go.Proofs.YtklijaahbahcoaaDoor
/-
  Rows of elements of any size: literals, append, parts; results of a cell and a slot; calls of function values.
-/
namespace Go.Proofs.YtklijaahbahcoaaDoor
set_option maxRecDepth 100000
open Go.RowKit

theorem foldl_set (o : Nat) : ∀ (vs : List Value) (i : Nat) (L : List Value), o + i + vs.length ≤ L.length →
    (vs.zipIdx i).foldl (fun (cs : Array Value) (x : Value × Nat) => cs.setIfInBounds (o + x.2) x.1) L.toArray = (spl L (o + i) vs).toArray
  | [], i, L, _ => by simp [spl]
  | v :: vs, i, L, hl => by
    simp only [List.length_cons] at hl
    rw [List.zipIdx_cons, List.foldl_cons]
    have ih := foldl_set o vs (i + 1) (L.set (o + i) v) (by simp; omega)
    simp only [List.setIfInBounds_toArray]
    rw [ih]
    congr 1
    have hlt : o + i < L.length := by omega
    simp only [spl, List.length_cons]
    rw [show o + (i + 1) = (o + i) + 1 from by omega, List.take_succ_eq_append_getElem (by simpa using hlt), List.take_set_of_le (Nat.le_refl _), List.drop_set_of_lt (by omega)]
    simp [Nat.add_comm, Nat.add_left_comm, Nat.add_assoc]
theorem fill_rangen {sz : Nat} {place : Nat → Option (Nat × Nat)} (hp : ∀ i, place i = some (i * sz, sz)) : ∀ (vs : List Value) (k : Nat) (cells : List Value), (∀ v ∈ vs, v.cells.size = sz) → (k + vs.length) * sz = cells.length →
    Instr.fill place cells.toArray ((List.range' k vs.length).zip vs) = some (cells.take (k * sz) ++ vs.flatMap fun v => v.cells.toList).toArray
  | [], k, cells, _, hl => by
    simp only [List.length_nil, Nat.add_zero] at hl
    simp [Instr.fill, hl]
  | v :: vs, k, cells, h1, hl => by
    have hv := h1 v (by simp)
    have hlen : k * sz + sz ≤ cells.length := by
      rw [← hl, List.length_cons, Nat.add_mul, Nat.add_mul]; omega
    have hsp := spl_length (L := cells) (vs := v.cells.toList) (k := k * sz) (by simp [hv]; omega)
    have ih := fill_rangen hp vs (k + 1) (spl cells (k * sz) v.cells.toList) (fun u hu => h1 u (by simp [hu])) (by rw [hsp, ← hl, List.length_cons]; congr 1; omega)
    simp only [List.length_cons, List.range'_succ, List.zip_cons_cons, Instr.fill, hp]
    rw [if_neg (by simp [hv]; omega)]
    have hf := foldl_set (k * sz) v.cells.toList 0 cells (by simp [hv]; omega)
    have e : v.cells.zipIdx.foldl (fun cs (x : Value × Nat) => match x with | (c, j) => cs.setIfInBounds (k * sz + j) c) cells.toArray = (spl cells (k * sz) v.cells.toList).toArray := by
      rw [← Array.foldl_toList, Array.toList_zipIdx]
      exact hf
    rw [e, ih]
    congr 2
    rw [List.flatMap_cons, ← List.append_assoc]
    congr 1
    rw [Nat.add_mul, Nat.one_mul, spl, List.take_append_of_le_length (by simp; omega)]
    have h5 : (List.take (k * sz) cells ++ v.cells.toList).length = k * sz + sz := by rw [List.length_append, List.length_take, Nat.min_eq_left (by omega)]; simp [hv]
    rw [← h5, List.take_length]
theorem run_litn {P : Program} {w : World} {t e : TypeId} {z : Value} {sz : Nat} (hu : P.underlying t = some (.slice e)) (hs : ∀ w, (sizeOf e).run P w = .ok sz w) (hz : ∀ w, (zeroValue e).run P w = .ok z w) (vs : List Value) (h1 : ∀ v ∈ vs, v.cells.size = sz) (hn : vs.length * sz ≤ 16777216) :
    (Instr.buildSlice t vs.length ((List.range' 0 vs.length).zip vs).toArray).run P w = .ok (.slice (some ⟨w.heap.size, 0, none⟩) vs.length vs.length) (w.alloc (.cells (vs.flatMap fun v => v.cells.toList).toArray e)) := by
  have hf : ∀ (cells : Array Value), cells.size = vs.length * sz → Instr.fill (fun i => some (i * sz, sz)) cells ((List.range' 0 vs.length).zip vs) = some (vs.flatMap fun v => v.cells.toList).toArray := fun cells hc => by
    have := fill_rangen (place := fun i => some (i * sz, sz)) (fun _ => rfl) vs 0 cells.toList h1 (by simp [hc])
    simpa using this
  have hn' : ¬ (16777216 < vs.length * sz) := by omega
  by_cases hv : vs.length * sz = 0
  · have h2 := hf #[] (by simp [hv])
    simp [Instr.buildSlice, run_underlying hu, hs, hv, newRow, newObj, Sem.run, show Array.range 0 = #[] from rfl, h2]
  · have h2 := hf (Array.map (fun x => z.cells[x % z.cells.size]!) (Array.range (vs.length * sz))) (by simp)
    simp [Instr.buildSlice, run_underlying hu, hs, hz, hn', hv, newRow, newObj, Sem.run, h2]

/-- What a row's element type must be. -/
structure RowT (P : Program) (t e : TypeId) (z : Value) (sz bytes : Nat) : Prop where
  ht : P.underlying t = some (.slice e)
  hi : (P.info? e).map (fun i => (i.zero, i.size, i.bytes)) = some (some z, sz, bytes)
  hz : z.cells.size = sz
  h0 : 0 < sz

section
variable {w w' : World} {sz n : Nat} {A : Option Addr} {xs : List Value}
theorem Reads.cutn (h : Reads w sz A n xs) {k m cap : Nat} (hk : k ≤ n) (hc : n ≤ cap) (hm : m = n - k) : Reads w sz (cutA A cap sz k) m (xs.drop (k * sz)) := by
  subst hm
  have hl := h.1
  refine ⟨by rw [List.length_drop, hl, Nat.sub_mul], fun hn => ?_⟩
  have hkn : k * sz < xs.length := by
    rcases Nat.lt_or_ge (k * sz) xs.length with h1 | h1
    · exact h1
    · exact absurd (List.drop_eq_nil_of_le h1) hn
  obtain ⟨b, o, rfl, hcell⟩ := h.2 (by intro e; rw [e] at hkn; simp at hkn)
  have hkn' : k < n := by
    rw [hl] at hkn
    exact Nat.lt_of_mul_lt_mul_right hkn
  unfold cutA
  rw [if_neg (by omega)]
  refine ⟨b, o + k * sz, by simp [add_plain], fun j u hu => ?_⟩
  rw [Nat.add_assoc]
  exact hcell _ u (by rw [← hu, List.getElem?_drop])
theorem Reads.taken (h : Reads w sz A n xs) {k : Nat} (hk : k ≤ n) : Reads w sz A k (xs.take (k * sz)) := by
  have hl := h.1
  refine ⟨by rw [List.length_take, hl]; exact Nat.min_eq_left (Nat.mul_le_mul_right _ hk), fun hn => ?_⟩
  obtain ⟨b, o, rfl, hcell⟩ := h.2 (by intro e; simp [e] at hn)
  refine ⟨b, o, rfl, fun j u hu => hcell _ u ?_⟩
  rw [List.getElem?_take] at hu
  split at hu
  · exact hu
  · cases hu
end

section
variable {P : Program} (w : World)
theorem run_append_zeros (t ti ty e : TypeId) (i : TypeInfo) (z : Value) (ht : P.underlying t = some (.slice e)) (hti : P.underlying ti = some (.int .i64)) (hi : P.info? e = some i) (hz : i.zero = some z) (hzs : z.cells.size = i.size) (h0 : 0 < i.size) (m : Nat) (hm : 0 < m) (h63 : m ≤ 9223372036854775807) (hb : m * i.bytes ≤ 281474976710656) :
    (Builtin.append_ #[t, ti] ty #[.slice none 0 0, .int .i64 m]).run P w =
      .ok (.slice (some ⟨w.heap.size, 0, none⟩) m (grownCap w m 0 e)) (w.drew.alloc (.cells (Builtin.zeroCells z.cells m ++ Builtin.zeroCells z.cells (grownCap w m 0 e - m)) e)) := by
  have hn : m ≠ 0 := by omega
  have h63' : ¬ (9223372036854775807 < (m : Int)) := by omega
  have h48' : ¬ (281474976710656 < Builtin.nextslicecap m 0 * i.bytes) := by rw [nextslicecap_zero hm]; omega
  have hw : IntKind.i64.wrap (m : Int) = m := i64_in (by omega) (by omega)
  have hb' : ¬ (281474976710656 < (m : Int) * (i.bytes : Int)) := by
    have : (m : Int) * (i.bytes : Int) = ((m * i.bytes : Nat) : Int) := by simp
    omega
  have hms : m * i.size ≠ 0 := Nat.mul_ne_zero hn (by omega)
  have hneg : ¬ ((m : Int) < 0) := by omega
  simp [Builtin.append_, run_underlying ht, run_underlying hti, sizeOf, typeInfo, zeroValue, hi, hz, asInt, asIntOf, hw, hn, h63', h48', hb', hms, hneg, Question.forced, run_firstCells_none, newRow, grownCap]
end

section
variable {P : Program} {fn : Func} {F : Ending → World → Prop} {N : Nat} {ks : List K} {ops : Array Oper} {tg : Tags} {l : List Oper} {fr : Fr} {w : World} {ty t t2 e : TypeId} {z : Value} {sz bytes : Nat} {pos : String} {aft : Array Edge} {gd : Option (Nat × Bool)} {d g : Nat} {x y k : Operand}
/-- append(x, y...): x the call's own. -/
theorem wl_appn (T : RowT P t e z sz bytes) {B : Nat} {A X : Option Addr} {n c j q : Nat} {xs ms : List Value} (hx : fr.ev x = some (.slice A n c)) (hown : w.ownsRow B e sz (.slice A n c) n xs) (hy : fr.ev y = some (.slice X j q)) (hr : Reads w sz X j ms) (h1 : ∀ u ∈ ms, u.oneCell' = true)
    (h63 : n + j ≤ maxLen) (hlen : (n + j) * bytes ≤ 140737488355328) (hB : B ≤ w.heap.size)
    (h : ∀ A' c' w', w'.ownsRow B e sz (.slice A' (n + j) c') (n + j) (xs ++ ms) → w.grownBy w' (blk A) → (blk A' = blk A ∨ blk A' = some w.heap.size) → Below B w w' → WL P fn F N ks ops tg.tail l ((d, .slice A' (n + j) c') :: fr) w')
    (ht : tg.loud = true := by rfl) (hg : onG ops fr gd = true := by rfl) (hd : Nat.blt d N = true := by rfl) (hq : tg.calm = false ∨ blk A = none ∨ blk A = tg.row := by exact .inl rfl) :
    WL P fn F N ks ops tg (⟨some d, .call { callee := .builtin .append, args := #[x, y], argTypes := #[t, t] }, ty, pos, aft, gd⟩ :: l) fr w := by
  obtain ⟨i, hi, hz, hs, hb⟩ := info_parts T.hi
  obtain ⟨v', w', hrun, h2, h3, h4⟩ := run_append_any (P := P) w B t ty e i z sz bytes T.ht hi hz hs hb T.hz T.h0 (.slice A n c) n xs hown X j q ms hr h1 h63 hlen hB
  obtain ⟨A', c', rfl⟩ := ownsRow_shape h2
  rw [blk_own] at h3 h4
  rw [blk_own] at h4
  have hlt : ∀ b, blk A = some b → B ≤ b ∧ b < w.heap.size := fun b hb => World.ownsRow.lt hown b (by rw [blk_own]; exact hb)
  exact wl_v (o_builtin (xs := [x, y]) (vs := [.slice A n c, .slice X j q]) (by simp [Fr.evs, hx, hy]) (by simp [builtin, hrun]) (by simp)) (h A' c' w' h2 h3 h4 ((Below.refl B w).grown h3 hB (fun b hb => (hlt b hb).1))) ht hg hd
    (hq.imp id fun e => e.elim (fun e => grown_wide (e ▸ h3) _) (fun e => e ▸ h3))
/-- A slice literal, all its elements in order. -/
theorem wl_litn {xs : List Operand} {vs : List Value} (T : RowT P t e z sz bytes) (hs : ∀ w, (sizeOf e).run P w = .ok sz w) (hz : ∀ w, (zeroValue e).run P w = .ok z w) (n : Nat) (hx : fr.evs xs = some vs) (hn : vs.length = n) (h1 : ∀ v ∈ vs, v.cells.size = sz) (hm : Nat.ble (n * sz) 1000000 = true)
    (hk : ∀ w', (∀ B, B ≤ w.heap.size → w'.ownsRow B e sz (.slice (some ⟨w.heap.size, 0, none⟩) n n) n (vs.flatMap fun v => v.cells.toList)) → Below w.heap.size w w' → w'.heap.size = w.heap.size + 1 → WL P fn F N ks ops tg.tail l ((d, .slice (some ⟨w.heap.size, 0, none⟩) n n) :: fr) w')
    (ht : tg.loud = true := by rfl) (hg : onG ops fr gd = true := by rfl) (hd : Nat.blt d N = true := by rfl) : WL P fn F N ks ops tg (⟨some d, .buildSlice t n ((List.range' 0 n).zip xs).toArray, ty, pos, aft, gd⟩ :: l) fr w := by
  subst hn
  have hm' : vs.length * sz ≤ 1000000 := by simpa using hm
  have hr := run_litn (P := P) (w := w) T.ht hs hz vs h1 (by omega)
  have hfl : (vs.flatMap fun v => v.cells.toList).length = vs.length * sz := by
    clear hr hm hm' hk hx
    induction vs with
    | nil => simp
    | cons v vs ih => simp only [List.flatMap_cons, List.length_append, List.length_cons, Array.length_toList, h1 v (by simp), ih (fun u hu => h1 u (by simp [hu])), Nat.add_mul]; omega
  have hlen : vs.length ≤ 1000000 := by
    have h0 := T.h0
    exact Nat.le_trans (Nat.le_mul_of_pos_right _ h0) hm'
  exact wl_v (o_lit hx hr) (hk _ (fun B hB => ⟨hfl, .inr ⟨w.heap.size, vs.length, _, rfl, hB, heap_alloc_new w _, Nat.le_refl _, by simp only [maxLen]; omega, by simpa using hfl, by rw [← hfl]; exact List.take_length⟩⟩) (below_alloc w _) (by simp)) ht hg hd (.inr (grown_of_below (below_alloc w _) _))
/-- append(nil, make([]T, m)...): the room alone is kept. -/
theorem wl_appz {ti : TypeId} {m : Nat} {v : Int} (T : RowT P t e z sz bytes) (hti : P.underlying ti = some (.int .i64)) (hx : fr.ev x = some (.slice none 0 0)) (hy : fr.ev y = some (.int .i64 v)) (hv : v = (m : Int)) (hm : 0 < m) (h63 : m ≤ 1000000000) (hb : m * bytes ≤ 281474976710656)
    (hk : ∀ w' c, (∀ B, B ≤ w.heap.size → w'.ownsRow B e sz (.slice (some ⟨w.heap.size, 0, none⟩) 0 c) 0 []) → m ≤ c → Below w.heap.size w w' → WL P fn F N ks ops tg.tail l ((d, .slice (some ⟨w.heap.size, 0, none⟩) m c) :: fr) w')
    (ht : tg.loud = true := by rfl) (hg : onG ops fr gd = true := by rfl) (hd : Nat.blt d N = true := by rfl) :
    WL P fn F N ks ops tg (⟨some d, .call { callee := .builtin .append, args := #[x, y], argTypes := #[t, ti] }, ty, pos, aft, gd⟩ :: l) fr w := by
  subst hv
  obtain ⟨i, hi, hz, hs, hb'⟩ := info_parts T.hi
  have hrun := run_append_zeros (P := P) w t ti ty e i z T.ht hti hi hz (by rw [T.hz, hs]) (by rw [hs]; exact T.h0) m hm (by omega) (by rw [hb']; exact hb)
  have hge := grownCap_ge w m 0 e
  have hcm : grownCap w m 0 e ≤ maxLen := grownCap_le_maxLen w m 0 e (by simp only [maxLen]; omega)
  have hbl : Below w.heap.size w (w.drew.alloc (.cells (Builtin.zeroCells z.cells m ++ Builtin.zeroCells z.cells (grownCap w m 0 e - m)) e)) := ((Below.refl w.heap.size w).drew.alloc (Nat.le_refl _) _)
  refine wl_v (o_builtin (xs := [x, y]) (vs := [.slice none 0 0, .int .i64 m]) (by simp [Fr.evs, hx, hy]) (by simp [builtin, hrun]) (by simp))
    (hk _ _ (fun B hB => ⟨by simp, .inr ⟨w.heap.size, _, _, rfl, hB, heap_alloc_new w.drew _, Nat.zero_le _, hcm, ?_, by simp⟩⟩) hge hbl) ht hg hd (.inr (grown_of_below hbl _))
  simp only [Array.size_append, size_zeroCells, T.hz, ← Nat.add_mul]
  congr 1
  omega
/-- A result in a cell and one in a slot. -/
theorem ret_cell_tmp {p q n : Nat} {cs : List Value} {v : Value} {t' : TypeId} {R : Value → World → Prop} (h : fn.results = #[.cell p t, .tmp q]) (hp : fr.get p = some (.pointer (some ⟨g, 0, none⟩))) (hv : fr.get q = some v) (ha' : ∀ w, (isAgg t).run P w = .ok true w) (hs : ∀ w, (sizeOf t).run P w = .ok n w)
    (hB : Blk w g t' cs) (hn : cs.length = n) (hR : R (.tuple #[.agg cs.toArray, v]) w) : RK P fn (fun e w' => ∃ v, e = .returned v ∧ R v w') N (.code .ret :: ks) fr w :=
  rk_ret (F := fun e w' => ∃ v, e = .returned v ∧ R v w') (fun a ha => ⟨.tuple #[.agg cs.toArray, v], by
    have hp' : a.tmps[p]?.getD undef = .pointer (some ⟨g, 0, none⟩) := by rw [ha.get p _ hp]; rfl
    have hv' : a.tmps[q]?.getD undef = v := by rw [ha.get q _ hv]; rfl
    subst hn
    have hl : (loadCells ⟨g, 0, none⟩ cs.length).run P w = .ok cs.toArray w := run_loadCells_list (P := P) w ⟨g, 0, none⟩ cs (fun j u hu => by rw [add_plain, hB.cell, Nat.zero_add]; exact hu)
    simp [results, h, hp', hv', asAddr, loadVar, ha', hs, hl], ⟨_, rfl, hR⟩⟩)
/-- A function value that closes over variables. -/
theorem o_makeFunc {f : FuncId} {xs : List Operand} {vs : List Value} (hx : fr.evs xs = some vs) : OpV P N fr w (.makeFunc (.func f) #[] xs.toArray) ty (.func (.func f) #[] vs.toArray) w := fun a ha o ho _ => by
  have hargs : Array.map a.eval xs.toArray = vs.toArray := by rw [List.map_toArray, ha.evs hx]
  simp [execOp, ho, hargs, Instr.makeFunc]
theorem run_callf {ρ : Operand → Value} {f : FuncId} (hB : Bodied P f) {q : Operand} {xs : Array Operand} {ts : Array TypeId} {vs cs : Array Value} (hv : xs.map ρ = vs) (hρ : ρ q = .func (.func f) #[] cs) (o : Oper)
    (ho : o.op = .call { callee := .value q, args := xs, argTypes := ts }) : (execOp ρ o).run P w = .ok (.enter f (vs ++ cs)) w := by
  obtain ⟨g, h1, h2, h3⟩ := hB
  simp [execOp, ho, resolve, invoke, hρ, hv, Deferred.ofValue, callFunc, h1]
  rw [if_neg (by simpa using h3), if_neg (by intro e; rw [e] at h2; cases h2)]
theorem wl_callf {f : FuncId} {q : Operand} {xs : List Operand} {ts : Array TypeId} {vs cs : List Value} {R : Value → World → Prop} (hq0 : fr.ev q = some (.func (.func f) #[] cs.toArray)) (hx : fr.evs xs = some vs) (hc : CallsR P f (vs ++ cs) w R) (hk : ∀ v w', R v w' → WL P fn F N ks ops tg.tail l ((d, v) :: fr) w')
    (ht : tg.loud = true := by rfl) (hg : onG ops fr gd = true := by rfl) (hd : Nat.blt d N = true := by rfl) (hq : tg.calm = false ∨ ∀ v w', R v w' → w.grownBy w' tg.row := by exact .inl rfl) :
    WL P fn F N ks ops tg (⟨some d, .call { callee := .value q, args := xs.toArray, argTypes := ts }, ty, pos, aft, gd⟩ :: l) fr w :=
  fun a ha => left_loud ht fun K hK => by
    rw [if_pos (wanted_on (o := ⟨some d, .call { callee := .value q, args := xs.toArray, argTypes := ts }, ty, pos, aft, gd⟩) ha hg)]
    have hargs : Array.map a.eval xs.toArray = vs.toArray := by rw [List.map_toArray, ha.evs hx]
    unfold Oper.wp
    rw [run_callf hc.1 hargs (ha.ev hq0) _ rfl]
    have hc2 := hc.2
    rw [← List.append_toArray] at hc2
    refine Calls.mono hc2 ?_
    rintro e w' ⟨v, rfl, hr⟩
    exact hK _ _ (hq.imp id fun h => Rw.of (h v w' hr)) (hk v w' hr _ (ha.put hd v))
end
end Go.Proofs.YtklijaahbahcoaaDoor
/-
  Rules in the form that the recorder's search applies: new blocks have names, rows of the call's own have bounds. No function of the program is named here.
-/
namespace Go.Proofs.YtklijaahbahcoaaDoor
set_option maxRecDepth 100000
open Go.RowKit

theorem drew_size (w : World) : w.drew.heap.size = w.heap.size := rfl

theorem oneCell_of {vs : List Value} (h : vs.all (fun v => v.oneCell') = true) : ∀ v ∈ vs, v.oneCell' = true := List.all_eq_true.1 h

/-! Frames that go on from a frame that was there. -/
def Fr.le (fr0 fr : Fr) : Prop := ∀ t v, fr0.get t = some v → fr.get t = some v
theorem Rep.le {N : Nat} {a : Act} {fr fr0 : Fr} (h : Rep N a fr) (hl : Fr.le fr0 fr) : Rep N a fr0 := ⟨h.size, h.defers, fun t v hv => h.get t v (hl t v hv)⟩
theorem Fr.get_of_sub {fr : Fr} : ∀ {c : Fr}, Fr.sub c fr → ∀ t v, c.get t = some v → fr.get t = some v
  | [], _, t, v, h => by cases h
  | (k, u) :: r, hs, t, v, h => by
    rw [Fr.get_cons] at h
    by_cases e : k = t
    · subst e
      rw [if_pos rfl] at h
      injection h with h
      subst h
      exact hs.1
    · rw [if_neg e] at h
      exact Fr.get_of_sub hs.2 t v h
theorem Fr.le_of_sub {c fr : Fr} (h : Fr.sub c fr) : Fr.le c fr := Fr.get_of_sub h
def inN (t : Nat) : List Nat → Bool
  | [] => false
  | k :: l => bif Nat.beq k t then true else inN t l
theorem Fr.get_append (c fb : Fr) (t : Nat) : (c ++ fb).get t = match c.get t with
    | some v => some v
    | none => fb.get t := by
  induction c with
  | nil => rfl
  | cons p c ih =>
    obtain ⟨k, u⟩ := p
    rw [List.cons_append, Fr.get_cons, Fr.get_cons]
    by_cases e : k = t
    · rw [if_pos e, if_pos e]
    · rw [if_neg e, if_neg e, ih]
theorem Fr.get_none_iff (c : Fr) (t : Nat) : c.get t = none ↔ inN t (c.map Prod.fst) = false := by
  induction c with
  | nil => simp [Fr.get, inN]
  | cons p c ih =>
    obtain ⟨k, u⟩ := p
    show (bif Nat.beq k t then some u else Fr.get c t) = none ↔ (bif Nat.beq k t then true else inN t (c.map Prod.fst)) = false
    cases Nat.beq k t with
    | true => simp
    | false => simpa using ih
def okSlots (c fb : List Nat) : List Nat → Bool
  | [] => true
  | t :: l => (inN t c || !inN t fb) && okSlots c fb l
theorem okSlots_spec {c fb : List Nat} : ∀ {l : List Nat}, okSlots c fb l = true → ∀ t, inN t l = true → inN t c = true ∨ inN t fb = false
  | [], _, t, h => by cases h
  | k :: l, hk, t, h => by
    unfold okSlots at hk
    simp only [Bool.and_eq_true, Bool.or_eq_true, Bool.not_eq_true'] at hk
    have h' : (bif Nat.beq k t then true else inN t l) = true := h
    cases hb : Nat.beq k t with
    | true => rw [← Nat.eq_of_beq_eq_true hb]; exact hk.1
    | false => rw [hb] at h'; exact okSlots_spec hk.2 t h'
theorem Fr.le_of {c fb fr : Fr} (hb : fr.drop (fr.length - fb.length) = fb) (hs : okSlots (c.map Prod.fst) (fb.map Prod.fst) ((fr.take (fr.length - fb.length)).map Prod.fst) = true) (hc : Fr.sub c fr) : Fr.le (c ++ fb) fr := fun t v h => by
  rw [Fr.get_append] at h
  cases hct : c.get t with
  | some u =>
    rw [hct] at h
    have h' : some u = some v := h
    rw [← h']
    exact Fr.get_of_sub hc t u hct
  | none =>
    rw [hct] at h
    have h' : fb.get t = some v := h
    rw [← List.take_append_drop (fr.length - fb.length) fr, hb, Fr.get_append]
    cases hp : Fr.get (fr.take (fr.length - fb.length)) t with
    | none => exact h'
    | some u =>
      exfalso
      have h1 : inN t ((fr.take (fr.length - fb.length)).map Prod.fst) = true := by
        cases hi : inN t ((fr.take (fr.length - fb.length)).map Prod.fst) with
        | true => rfl
        | false => rw [(Fr.get_none_iff _ t).2 hi] at hp; cases hp
      rcases okSlots_spec hs t h1 with h2 | h2
      · rw [(Fr.get_none_iff c t).1 hct] at h2; cases h2
      · rw [(Fr.get_none_iff fb t).2 h2] at h'; cases h'
section
variable {P : Program} {fn : Func} {F : Ending → World → Prop} {N : Nat} {ks : List K} {k : K} {ops : Array Oper} {l : List Oper} {fr : Fr} {w : World} {tg : Tags}
theorem RK.le {fr' : Fr} (hs : Fr.le fr' fr) (h : RK P fn F N ks fr' w) : RK P fn F N ks fr w := fun a ha => h a (ha.le hs)
/-- A loop: Inv says what holds at its head (its first word is the frame ahead of it); its number goes down. -/
theorem rk_loopf {c : Code} (Inv : Fr → Nat → Fr → World → Prop) {n : Nat} {fr0 : Fr} (hs : Fr.le fr0 fr) (h0 : Inv fr n fr0 w)
    (round : ∀ n fr' w, Inv fr n fr' w → RK P fn F N (.code c :: .inv (fun a w' => ∃ m fr', m < n ∧ Rep N a fr' ∧ Inv fr m fr' w') :: ks) fr' w) : RK P fn F N (.code (.loop c) :: ks) fr w := by
  intro a ha b k cs
  have key : ∀ n fr' a w, Rep N a fr' → Inv fr n fr' w →
      ∃ e a' w', kpost P fn F ks e a' w' ∧ Arrives P (lone (b.at a (.code c :: .inLoop c :: k)) cs w) b k cs e a' w' := by
    intro n
    induction n using Nat.strongRecOn with
    | _ n ih =>
      intro fr' a w hr hI
      obtain ⟨e, a₁, w₁, hq, harr⟩ := round n fr' w hI a hr b (.inLoop c :: k) cs
      cases e with
      | normal =>
        obtain ⟨m, fr'', hlt, hr', hI₁⟩ := hq
        obtain ⟨e₂, a₂, w₂, hq₂, harr₂⟩ := ih m hlt fr'' a₁ w₁ hr' hI₁
        exact ⟨e₂, a₂, w₂, hq₂, .of_steps (Steps.trans harr (.one step_inLoop)) harr₂⟩
      | exit id => exact ⟨_, a₁, w₁, hq, .pass (x := .inLoop c) rfl (fun _ _ => .inl (by simp)) harr⟩
      | goto l => exact ⟨_, a₁, w₁, hq, .pass (x := .inLoop c) rfl (fun _ _ => .inl (by simp)) harr⟩
      | ret => exact ⟨_, a₁, w₁, hq, .pass (x := .inLoop c) rfl (fun _ _ => .inl (by simp)) harr⟩
      | panic ch => exact ⟨_, a₁, w₁, hq, .pass (x := .inLoop c) rfl (fun _ _ => .inl (by simp)) harr⟩
      | outgrown => exact ⟨_, a₁, w₁, hq, .pass (x := .inLoop c) rfl (fun _ _ => .inl (by simp)) harr⟩
  obtain ⟨e, a', w', hq, harr⟩ := key n fr0 a w (ha.le hs) h0
  exact ⟨e, a', w', hq, .of_steps (.one step_loop) harr⟩
theorem rk_againf {Inv : Nat → Fr → World → Prop} {n m : Nat} {fr0 : Fr} (hs : Fr.le fr0 fr) (h : Inv m fr0 w) (hlt : m < n) :
    RK P fn F N (.inv (fun a w' => ∃ m fr', m < n ∧ Rep N a fr' ∧ Inv m fr' w') :: ks) fr w := fun _ ha => ⟨m, fr0, hlt, ha.le hs, h⟩
theorem rk_joinf {id : Nat} (R : Fr → Fr → World → Prop) (h2 : ∀ fr' w, R fr fr' w → RK P fn F N ks fr' w) (h1 : ∀ ks, (∀ fr' w, R fr fr' w → RK P fn F N ks fr' w) → RK P fn F N (k :: .blk id :: ks) fr w) : RK P fn F N (k :: .blk id :: ks) fr w := h1 ks h2
/-- The same where a way may leave by what lies beneath. -/
theorem rk_joincf (R : Fr → Fr → World → Prop) (h2 : ∀ fr' w, R fr fr' w → RK P fn F N ks fr' w) (h1 : (∀ fr' w, R fr fr' w → RK P fn F N ks fr' w) → RK P fn F N (k :: ks) fr w) : RK P fn F N (k :: ks) fr w := h1 h2
theorem rk_tof {R : Fr → World → Prop} (hj : ∀ fr w, R fr w → RK P fn F N ks fr w) {fr0 : Fr} (hs : Fr.le fr0 fr) (h : R fr0 w) : RK P fn F N ks fr w := (hj fr0 w h).le hs
theorem wl_tof {R : Fr → World → Prop} (hj : ∀ fr w, R fr w → WL P fn F N ks ops tg l fr w) {fr0 : Fr} (hs : Fr.le fr0 fr) (h : R fr0 w) : WL P fn F N ks ops tg l fr w := fun a ha => hj fr0 w h a (ha.le hs)
theorem rk_frame {c fb fr' : Fr} (e : c ++ fb = fr') (h : RK P fn F N ks fr' w) : RK P fn F N ks (c ++ fb) w := e ▸ h
theorem wl_frame {c fb fr' : Fr} (e : c ++ fb = fr') (h : WL P fn F N ks ops tg l fr' w) : WL P fn F N ks ops tg l (c ++ fb) w := e ▸ h
/-- Within a region: all ways through the next n operations come to a state of R. -/
theorem wl_joinf (n : Nat) (R : Fr → Fr → World → Prop) (h2 : ∀ fr' w, R fr fr' w → WL P fn F N ks ops (Tags.tails n tg) (l.drop n) fr' w) (h1 : (∀ fr' w, R fr fr' w → WL P fn F N ks ops (Tags.tails n tg) (l.drop n) fr' w) → WL P fn F N ks ops tg l fr w) : WL P fn F N ks ops tg l fr w := h1 h2
theorem wl_forkf {row : Rw} {m L C n k1 k2 : Nat} {ops : List Oper} (R : Fr → Fr → World → Prop) (D A : List Nat) (ord1 ord2 ordR : List Nat) (ts1 ts2 tsR : List (Tag × Nat)) (hD : ops.map (dmask .any) = D) (hA : ancs .any ops [] = A)
    (hc : (Nat.testBit L k1 && (Nat.testBit L k2 && (rdyK D m k1 && (rdyK D m k2 && (Go.Proofs.YtklijaahbahcoaaDoor.only2 m k1 k2 D 0 && (Nat.beq n ((inOrder ops ord1).length + extra ts1) && (Nat.beq n ((inOrder ops ord2).length + extra ts2) && (chk ops.toArray ops D A L C ts1 (m ||| 2 ^ k1) && chk ops.toArray ops D A L C ts2 (m ||| 2 ^ k2))))))))) = true)
    (hl1 : (inOrder ops ord1).map some = ops.toArray[k1]? :: opsOf ops.toArray ts1) (hl2 : (inOrder ops ord2).map some = ops.toArray[k2]? :: opsOf ops.toArray ts2)
    (h0 : ∀ fr' w, R fr fr' w → WL P fn F N ks ops.toArray (some (row, tsR)) (inOrder ops ordR) fr' w)
    (h1 : (∀ fr' w, R fr fr' w → WL P fn F N ks ops.toArray (some (row, tsR)) (inOrder ops ordR) fr' w) → WL P fn F N ks ops.toArray (some (row, (.g m L C, k1) :: ts1)) (inOrder ops ord1) fr w)
    (h2 : (∀ fr' w, R fr fr' w → WL P fn F N ks ops.toArray (some (row, tsR)) (inOrder ops ordR) fr' w) → WL P fn F N ks ops.toArray (some (row, (.g m L C, k2) :: ts2)) (inOrder ops ord2) fr w) : WL P fn F N ks ops.toArray (some (row, [(.f m L C, n)])) [] fr w :=
  wl_fork2j (R fr) D A ord1 ord2 ordR ts1 ts2 tsR hD hA hc hl1 hl2 h0 h1 h2
end

/-! Which blocks a change may touch. -/
def Ap (row : Option Nat) (lo hi : Nat) : Prop := ∀ k, row = some k → k < lo ∨ hi ≤ k
theorem ap_some {g lo hi : Nat} (h : g < lo ∨ hi ≤ g) : Ap (some g) lo hi := fun k e => by injection e with e; omega
theorem ap_none {lo hi : Nat} : Ap none lo hi := fun k e => by cases e
/-- The block k is a row of elements of type e. -/
def TyAt (w : World) (k : Nat) (e : TypeId) : Prop := ∃ cs f, w.heap[k]? = some (.cells cs e f)
/-- No more than one row has changed, of elements of type e. -/
structure Grew (w w' : World) (e : TypeId) (row : Option Nat) : Prop where
  g : w.grownBy w' row
  ty : ∀ k, row = some k → TyAt w k e
theorem Grew.size {w w' : World} {e : TypeId} {row : Option Nat} (h : Grew w w' e row) : w.heap.size ≤ w'.heap.size := h.g.size
theorem Grew.below {w w' : World} {e : TypeId} {row : Option Nat} (h : Grew w w' e row) {B : Nat} (hB : B ≤ w.heap.size) (ha : ∀ k, row = some k → B ≤ k) : Below B w w' :=
  ⟨h.g.os, h.g.tape, h.g.output, h.g.size, fun k hk => h.g.block k (by omega) (fun e => by have := ha k e.symm; omega)⟩

/-- No more than the map b has changed. -/
structure GrewM (w w' : World) (b : Nat) : Prop where
  g : w.grownBy w' (some b)
  m : ∃ es c, w.heap[b]? = some (.map es c)
theorem GrewM.size {w w' : World} {b : Nat} (h : GrewM w w' b) : w.heap.size ≤ w'.heap.size := h.g.size

section
variable {w w' : World} {g : Nat} {t e : TypeId} {cs : List Value} {row : Option Nat}
theorem Blk.m {b : Nat} (h : Blk w g t cs) (hg : GrewM w w' b) : Blk w' g t cs := h.grown hg.g (fun e => by
  injection e with e
  subst e
  obtain ⟨_, _, h'⟩ := hg.m
  unfold Blk at h
  rw [h] at h'
  cases h')
theorem Blk.u (h : Blk w g t cs) (hb : Below w.heap.size w w') : Blk w' g t cs := h.under hb
theorem Blk.d (h : Blk w g t cs) : Blk w.drew g t cs := h
theorem Blk.k (h : Blk w g t cs) (hg : w.grownBy w' row) (ha : Ap row g (g + 1)) : Blk w' g t cs := h.grown hg (fun e => by have := ha g e.symm; omega)
theorem Blk.y (h : Blk w g t cs) (hg : Grew w w' e row) (hne : e ≠ t) : Blk w' g t cs := h.grown hg.g (fun e' => by
  obtain ⟨cs', f, h'⟩ := hg.ty g e'.symm
  unfold Blk at h
  rw [h] at h'
  injection h' with h'
  injection h' with _ h'
  exact hne h'.symm)
theorem Blk.at_ (h : Blk w g t cs) : TyAt w g t := ⟨_, _, h⟩
theorem Blk.grew_set (h : Blk w g t cs) (i : Nat) (u : Value) : Grew w (w.setCell ⟨g, i, none⟩ u) t (some g) := ⟨grownBy_setCell w g i u, fun k e => by injection e with e; subst e; exact h.at_⟩
end

section
variable {w w' : World} {sz n lo hi c : Nat} {e e' : TypeId} {A : Option Addr} {xs : List Value} {l : List UInt8} {row : Option Nat}
theorem Reads.u (h : Reads w sz A n xs) (hb : Below w.heap.size w w') : Reads w' sz A n xs := h.below hb
theorem Reads.d (h : Reads w sz A n xs) : Reads w.drew sz A n xs := h
theorem Rd.u (h : Rd w A l) (hb : Below w.heap.size w w') : Rd w' A l := h.below hb
theorem Rd.d (h : Rd w A l) : Rd w.drew A l := h
theorem Rd.to_Reads (h : Rd w A l) : Reads w 1 A l.length (B8 l) := h
theorem Rd.nil_ : Rd w none [] := Rd.nil w none
/-- A row of the call's own, in the blocks from lo to hi. -/
structure RowH (w : World) (lo hi : Nat) (e : TypeId) (sz : Nat) (A : Option Addr) (n c : Nat) (xs : List Value) : Prop where
  o : w.ownsRow lo e sz (.slice A n c) n xs
  hi : ∀ k, blk A = some k → k < hi
theorem RowH.lt (h : RowH w lo hi e sz A n c xs) : ∀ k, blk A = some k → lo ≤ k ∧ k < w.heap.size := fun k hk => World.ownsRow.lt h.o k (by rw [blk_own]; exact hk)
theorem RowH.u (h : RowH w lo hi e sz A n c xs) (hb : Below w.heap.size w w') : RowH w' lo hi e sz A n c xs :=
  ⟨World.ownsRow.kept h.o (row := none) ⟨hb.os, hb.tape, hb.output, hb.size, fun k hk _ => hb.block k hk⟩ (by rw [blk_own]; cases blk A <;> simp), h.hi⟩
theorem RowH.d (h : RowH w lo hi e sz A n c xs) : RowH w.drew lo hi e sz A n c xs := ⟨World.ownsRow.drew h.o, h.hi⟩
theorem RowH.k (h : RowH w lo hi e sz A n c xs) (hg : w.grownBy w' row) (ha : Ap row lo hi) : RowH w' lo hi e sz A n c xs :=
  ⟨World.ownsRow.kept h.o hg (by
    rw [blk_own]
    cases hA : blk A with
    | none => exact .inl rfl
    | some k => exact .inr fun e => by have := h.hi k hA; have := h.lt k hA; have := ha k e.symm; omega), h.hi⟩
theorem RowH.ty (h : RowH w lo hi e sz A n c xs) : ∀ k, blk A = some k → TyAt w k e := fun k hk => by
  rcases h.o.2 with ⟨hv, _⟩ | ⟨g', cap, cur, hv, _, hh, _⟩
  · injection hv with hv; subst hv; cases hk
  · injection hv with hv; subst hv
    have : g' = k := by simpa [blk] using hk
    subst this
    exact ⟨_, _, hh⟩
theorem RowH.y (h : RowH w lo hi e sz A n c xs) (hg : Grew w w' e' row) (hne : e' ≠ e) : RowH w' lo hi e sz A n c xs :=
  ⟨World.ownsRow.kept h.o hg.g (by
    rw [blk_own]
    cases hA : blk A with
    | none => exact .inl rfl
    | some k =>
      refine .inr (fun ek => ?_)
      obtain ⟨_, _, h1⟩ := h.ty k hA
      obtain ⟨_, _, h2⟩ := hg.ty k ek.symm
      rw [h1] at h2
      injection h2 with h2
      injection h2 with _ h2
      exact hne h2.symm), h.hi⟩
theorem RowH.m {b : Nat} (h : RowH w lo hi e sz A n c xs) (hg : GrewM w w' b) : RowH w' lo hi e sz A n c xs :=
  ⟨World.ownsRow.kept h.o hg.g (by
    rw [blk_own]
    cases hA : blk A with
    | none => exact .inl rfl
    | some k =>
      refine .inr (fun ek => ?_)
      obtain ⟨_, _, h1⟩ := h.ty k hA
      obtain ⟨_, _, h2⟩ := hg.m
      injection ek with ek
      subst ek
      rw [h1] at h2
      cases h2), h.hi⟩
theorem RowH.ap (h : RowH w lo hi e sz A n c xs) {lo' hi' : Nat} (hd : hi ≤ lo' ∨ hi' ≤ lo) : Ap (blk A) lo' hi' := fun k hk => by have := h.hi k hk; have := h.lt k hk; omega
theorem RowH.rd (h : RowH w lo hi e sz A n c xs) : Reads w sz A n xs := Reads.of_own h.o
theorem RowH.cap (h : RowH w lo hi e sz A n c xs) : n ≤ c := by
  rcases h.o.2 with ⟨h1, h2⟩ | ⟨g, cap, cur, h2, h3, h4, h5, _⟩
  · injection h1 with _ _ h3; omega
  · injection h2 with _ _ h6; omega
theorem RowH.base (h : RowH w lo hi e sz A n c xs) {lo' hi' : Nat} (h1 : lo' ≤ lo) (h2 : hi ≤ hi') : RowH w lo' hi' e sz A n c xs :=
  ⟨⟨h.o.1, by
    rcases h.o.2 with h3 | ⟨g, cap, cur, h3, h4, h5⟩
    · exact .inl h3
    · exact .inr ⟨g, cap, cur, h3, by omega, h5⟩⟩, fun k hk => by have := h.hi k hk; omega⟩
theorem RowH.nil (w : World) (lo hi : Nat) (e : TypeId) (sz : Nat) : RowH w lo hi e sz none 0 0 [] := ⟨World.ownsRow_nil _ _ _ _, fun k hk => by cases hk⟩

/-- Bytes of the call's own, in the blocks from lo to hi. -/
def OwnH (w : World) (lo hi : Nat) (A : Option Addr) (c : Nat) (l : List UInt8) : Prop := RowH w lo hi 5 1 A l.length c (B8 l)
theorem OwnH.u (h : OwnH w lo hi A c l) (hb : Below w.heap.size w w') : OwnH w' lo hi A c l := RowH.u h hb
theorem OwnH.d (h : OwnH w lo hi A c l) : OwnH w.drew lo hi A c l := RowH.d h
theorem OwnH.k (h : OwnH w lo hi A c l) (hg : w.grownBy w' row) (ha : Ap row lo hi) : OwnH w' lo hi A c l := RowH.k h hg ha
theorem OwnH.y (h : OwnH w lo hi A c l) (hg : Grew w w' e' row) (hne : e' ≠ 5) : OwnH w' lo hi A c l := RowH.y h hg hne
theorem OwnH.m {b : Nat} (h : OwnH w lo hi A c l) (hg : GrewM w w' b) : OwnH w' lo hi A c l := RowH.m h hg
theorem OwnH.ap (h : OwnH w lo hi A c l) {lo' hi' : Nat} (hd : hi ≤ lo' ∨ hi' ≤ lo) : Ap (blk A) lo' hi' := RowH.ap h hd
theorem OwnH.cap (h : OwnH w lo hi A c l) : l.length ≤ c := RowH.cap h
theorem OwnH.to_Rd (h : OwnH w lo hi A c l) : Rd w A l := RowH.rd h
theorem OwnH.to_Reads (h : OwnH w lo hi A c l) : Reads w 1 A l.length (B8 l) := RowH.rd h
theorem OwnH.to_Own (h : OwnH w lo hi A c l) : Own w lo A c l := h.o
theorem OwnH.base (h : OwnH w lo hi A c l) {lo' hi' : Nat} (h1 : lo' ≤ lo) (h2 : hi ≤ hi') : OwnH w lo' hi' A c l := RowH.base h h1 h2
theorem OwnH.nil_ : OwnH w lo hi none 0 [] := RowH.nil _ _ _ _ _
theorem Own.h_ (h : Own w lo A c l) : OwnH w lo w.heap.size A c l := ⟨h, fun k hk => (Own.lt h k hk).2⟩
end

section
variable {P : Program} {fn : Func} {F : Ending → World → Prop} {N : Nat} {ks : List K} {ops : Array Oper} {tg : Tags} {l : List Oper} {fr : Fr} {w : World} {ty t t' t2 e : TypeId} {z v : Value} {sz bytes : Nat} {pos pos2 : String} {aft aft2 : Array Edge} {gd gd2 : Option (Nat × Bool)} {d g i n : Nat} {x y k : Operand} {cs : List Value} {ty2 : TypeId}

/-! New blocks. -/
--@ rule alloc l wl_allocst1
--@ rule alloc l wl_allocstn
--@ rule alloc l wl_allocg
--@ rule box l wl_boxg
theorem wl_allocg (zs : List Value) (hz : ∀ w, (zeroValue e).run P w = .ok z w) (hzs : z.cells = zs.toArray)
    (hk : ∀ g w', Blk w' g e zs → Below w.heap.size w w' → w.heap.size ≤ g → g < w'.heap.size → WL P fn F N ks ops tg.tail l ((d, .pointer (some ⟨g, 0, none⟩)) :: fr) w')
    (ht : tg.loud = true := by rfl) (hg : onG ops fr gd = true := by rfl) (hd : Nat.blt d N = true := by rfl) : WL P fn F N ks ops tg (⟨some d, .alloc e, ty, pos, aft, gd⟩ :: l) fr w :=
  wl_alloc zs hz hzs (fun w' h1 h2 h3 => hk _ w' h1 h2 (Nat.le_refl _) (by omega)) ht hg hd
theorem wl_boxg (vs : List Value) (hx : fr.ev x = some v) (hvs : v.cells = vs.toArray)
    (hk : ∀ g w', Blk w' g e vs → Below w.heap.size w w' → w.heap.size ≤ g → g < w'.heap.size → WL P fn F N ks ops tg.tail l ((d, .pointer (some ⟨g, 0, none⟩)) :: fr) w')
    (ht : tg.loud = true := by rfl) (hg : onG ops fr gd = true := by rfl) (hd : Nat.blt d N = true := by rfl) : WL P fn F N ks ops tg (⟨some d, .box e x, ty, pos, aft, gd⟩ :: l) fr w :=
  wl_box vs hx hvs (fun w' h1 h2 h3 => hk _ w' h1 h2 (Nat.le_refl _) (by omega)) ht hg hd
/-- A new variable, and its first value at once. -/
theorem wl_allocst1 (hz : ∀ w, (zeroValue e).run P w = .ok z w) (zs : List Value) (hzs : z.cells = zs.toArray) (hzl : zs.length = 1) (hs : ∀ w, (sizeOf t).run P w = .ok 1 w) (hy : ∀ u, Fr.ev ((d, u) :: fr) y = some v) (h1 : v.oneCell' = true)
    (hk : ∀ g w', Blk w' g e [v] → Below w.heap.size w w' → w.heap.size ≤ g → g < w'.heap.size → WL P fn F N ks ops tg.tail.tail l ((d, .pointer (some ⟨g, 0, none⟩)) :: fr) w')
    (ht : tg.loud = true := by rfl) (ht2 : tg.tail.loud = true := by rfl) (hg : onG ops fr gd = true := by rfl) (hg2 : ∀ u, onG ops ((d, u) :: fr) gd2 = true := by intro _; rfl) (hd : Nat.blt d N = true := by rfl) (hq : tg.tail.calm = false := by rfl) :
    WL P fn F N ks ops tg (⟨some d, .alloc e, ty, pos, aft, gd⟩ :: ⟨none, .store t (.tmp d) y, ty2, pos2, aft2, gd2⟩ :: l) fr w :=
  wl_alloc zs hz hzs (fun w1 hB hb hz1 => wl_store1 (i := 0) hs (show Fr.ev ((d, .pointer (some ⟨w.heap.size, 0, none⟩)) :: fr) (.tmp d) = _ by simp [Fr.ev, Fr.get]) (hy _) h1 hB (by omega) (fun w2 hB2 hg2' hz2 => hk w.heap.size w2
    (by rcases zs with _ | ⟨a, _ | ⟨b, r⟩⟩ <;> first | (simp at hzl; done) | exact hB2) (hb.trans (below_of_grownBy hg2' (by omega) (Nat.le_refl _))) (Nat.le_refl _) (by omega)) ht2 (hg2 _) (.inl hq)) ht hg hd
theorem wl_allocstn (hz : ∀ w, (zeroValue e).run P w = .ok z w) (zs vs : List Value) (hzs : z.cells = zs.toArray) (hs : ∀ w, (sizeOf t).run P w = .ok n w) (hy : ∀ u, Fr.ev ((d, u) :: fr) y = some (.agg vs.toArray)) (hzl : zs.length = n) (hn : vs.length = n) (h1 : ∀ v ∈ vs, v.oneCell' = true)
    (hk : ∀ g w', Blk w' g e vs → Below w.heap.size w w' → w.heap.size ≤ g → g < w'.heap.size → WL P fn F N ks ops tg.tail.tail l ((d, .pointer (some ⟨g, 0, none⟩)) :: fr) w')
    (ht : tg.loud = true := by rfl) (ht2 : tg.tail.loud = true := by rfl) (hg : onG ops fr gd = true := by rfl) (hg2 : ∀ u, onG ops ((d, u) :: fr) gd2 = true := by intro _; rfl) (hd : Nat.blt d N = true := by rfl) (hq : tg.tail.calm = false := by rfl) :
    WL P fn F N ks ops tg (⟨some d, .alloc e, ty, pos, aft, gd⟩ :: ⟨none, .store t (.tmp d) y, ty2, pos2, aft2, gd2⟩ :: l) fr w :=
  wl_alloc zs hz hzs (fun w1 hB hb hz1 => wl_store_all hs (show Fr.ev ((d, .pointer (some ⟨w.heap.size, 0, none⟩)) :: fr) (.tmp d) = _ by simp [Fr.ev, Fr.get]) (hy _) hn h1 hB hzl (fun w2 hB2 hg2' hz2 => hk w.heap.size w2
    hB2 (hb.trans (below_of_grownBy hg2' (by omega) (Nat.le_refl _))) (Nat.le_refl _) (by omega)) ht2 (hg2 _) (.inl hq)) ht hg hd

/-! Stores into blocks of the call's own. -/
--@ rule store l wl_storeg1
--@ rule store l wl_storega
--@ rule store l wl_storegn
theorem wl_storeg1 (hs : ∀ w, (sizeOf t).run P w = .ok 1 w) (hx : fr.ev x = some (.pointer (some ⟨g, i, none⟩))) (hy : fr.ev y = some v) (h1 : v.oneCell' = true) (hB : Blk w g t' cs) (hi : i < cs.length)
    (hk : ∀ w', Blk w' g t' (cs.set i v) → Grew w w' t' (some g) → w'.heap.size = w.heap.size → WL P fn F N ks ops tg.tail l fr w') (ht : tg.loud = true := by rfl) (hg : onG ops fr gd = true := by rfl) (hq : tg.calm = false ∨ tg.rw.may (some g) := by exact .inl rfl) :
    WL P fn F N ks ops tg (⟨none, .store t x y, ty, pos, aft, gd⟩ :: l) fr w :=
  wl_store1 hs hx hy h1 hB hi (fun w' h1 h2 h3 => hk w' h1 ⟨h2, fun k e => by injection e with e; subst e; exact hB.at_⟩ h3) ht hg hq
theorem wl_storega {vs : List Value} (hs : ∀ w, (sizeOf t).run P w = .ok n w) (hx : fr.ev x = some (.pointer (some ⟨g, 0, none⟩))) (hy : fr.ev y = some (.agg vs.toArray)) (hn : vs.length = n) (h1 : ∀ v ∈ vs, v.oneCell' = true) (hB : Blk w g t' cs) (hi : cs.length = n)
    (hk : ∀ w', Blk w' g t' vs → Grew w w' t' (some g) → w'.heap.size = w.heap.size → WL P fn F N ks ops tg.tail l fr w') (ht : tg.loud = true := by rfl) (hg : onG ops fr gd = true := by rfl) (hq : tg.calm = false ∨ tg.rw.may (some g) := by exact .inl rfl) :
    WL P fn F N ks ops tg (⟨none, .store t x y, ty, pos, aft, gd⟩ :: l) fr w :=
  wl_store_all hs hx hy hn h1 hB hi (fun w' h1 h2 h3 => hk w' h1 ⟨h2, fun k e => by injection e with e; subst e; exact hB.at_⟩ h3) ht hg hq
theorem wl_storegn {vs : List Value} (hs : ∀ w, (sizeOf t).run P w = .ok n w) (hx : fr.ev x = some (.pointer (some ⟨g, i, none⟩))) (hy : fr.ev y = some (.agg vs.toArray)) (hn : vs.length = n) (h1 : ∀ v ∈ vs, v.oneCell' = true) (hB : Blk w g t' cs) (hi : i + n ≤ cs.length)
    (hk : ∀ w', Blk w' g t' (spl cs i vs) → Grew w w' t' (some g) → w'.heap.size = w.heap.size → WL P fn F N ks ops tg.tail l fr w') (ht : tg.loud = true := by rfl) (hg : onG ops fr gd = true := by rfl) (hq : tg.calm = false ∨ tg.rw.may (some g) := by exact .inl rfl) :
    WL P fn F N ks ops tg (⟨none, .store t x y, ty, pos, aft, gd⟩ :: l) fr w :=
  wl_storen hs hx hy hn h1 hB hi (fun w' h1 h2 h3 => hk w' h1 ⟨h2, fun k e => by injection e with e; subst e; exact hB.at_⟩ h3) ht hg hq

/-! Loads out of blocks. -/
--@ rule load r o_loadbg
--@ rule load r o_loadag
theorem o_loadbg (ha' : ∀ w, (isAgg t).run P w = .ok false w) (hx : fr.ev x = some (.pointer (some ⟨g, i, none⟩))) (hB : Blk w g t' cs) (hi : cs[i]? = some v) : OpV P N fr w (.load t x) ty v w := o_loadb ha' hx hB hi
theorem o_loadag (ha' : ∀ w, (isAgg t).run P w = .ok true w) (hs : ∀ w, (sizeOf t).run P w = .ok n w) (hx : fr.ev x = some (.pointer (some ⟨g, 0, none⟩))) (hB : Blk w g t' cs) (hn : cs.length = n) : OpV P N fr w (.load t x) ty (.agg cs.toArray) w := o_load_all ha' hs hx hB hn

/-! Elements of slices: addresses. -/
def adr (A : Option Addr) (k : Nat) : Addr := (A.getD ⟨0, 0, none⟩).add k
theorem adr_add (A : Option Addr) (i j : Nat) : (adr A i).add j = adr A (i + j) := add_of_add _ _ _
theorem Reads.adr_ {A : Option Addr} {xs : List Value} {n : Nat} (h : Reads w sz A n xs) (hne : xs ≠ []) : A = some (A.getD ⟨0, 0, none⟩) ∧ ∀ j u, xs[j]? = some u → w.cell? (adr A j) = some u := by
  obtain ⟨b, o, rfl, hc⟩ := h.2 hne
  exact ⟨rfl, fun j u hu => by simp only [adr, Option.getD_some, add_plain]; exact hc j u hu⟩
section
variable {A : Option Addr} {len cap : Nat} {ik : IntKind} {m : Int} {xs : List Value} {w0 : World}
theorem Reads.some_ (hr : Reads w0 sz A len xs) (h0 : 0 < sz) (hj : 0 < len) : A = some (A.getD ⟨0, 0, none⟩) := by
  refine (hr.adr_ (fun e => ?_)).1
  have := hr.1
  rw [e, List.length_nil] at this
  rcases Nat.mul_eq_zero.1 this.symm with h | h <;> omega
theorem o_iaddrA (j : Nat) (hu : P.underlying t = some (.slice e)) (hs : ∀ w, (sizeOf e).run P w = .ok sz w) (hx : fr.ev x = some (.slice A len cap)) (hy : fr.ev y = some (.int ik m)) (hm : m = (j : Int)) (hA : A = some (A.getD ⟨0, 0, none⟩)) (hj : j < len) :
    OpV P N fr w (.indexAddr t x y) ty (.pointer (some (adr A (j * sz)))) w := fun a ha op hop _ => by
  subst hm
  have h2 : ¬ len ≤ j := by omega
  have hx' : a.eval x = .slice (some (A.getD ⟨0, 0, none⟩)) len cap := by rw [ha.ev hx]; exact congrArg (fun A => Value.slice A len cap) hA
  simp [execOp, hop, hx', ha.ev hy, Instr.indexAt, run_underlying hu, asIntOf, hs, adr]
  intro h; exact absurd h h2
--@ rule indexAddr p o_iaddrA1
--@ rule indexAddr p o_iaddrA
theorem o_iaddrA1 (j : Nat) (hu : P.underlying t = some (.slice e)) (hs : ∀ w, (sizeOf e).run P w = .ok 1 w) (hx : fr.ev x = some (.slice A len cap)) (hy : fr.ev y = some (.int ik m)) (hm : m = (j : Int)) (hA : A = some (A.getD ⟨0, 0, none⟩)) (hj : j < len) :
    OpV P N fr w (.indexAddr t x y) ty (.pointer (some (adr A j))) w := o_as (o_iaddrA j hu hs hx hy hm hA hj) (by rw [Nat.mul_one])
theorem o_faddrA {s : TypeId} {fs : Array Field} {f : Field} {i off fsz : Nat} {ad : Addr} (hu : P.underlying s = some (.struct fs)) (hf : fs[i]? = some f) (hs : ∀ w, (sizeOf f.type).run P w = .ok fsz w) (hz : Nat.blt 0 fsz = true) (ho : f.offset = off)
    (hx : fr.ev x = some (.pointer (some ad))) : OpV P N fr w (.fieldAddr s x i) ty (.pointer (some (ad.add off))) w := fun a ha op hop _ => by
  have hz' : fsz ≠ 0 := by
    have : 0 < fsz := by simpa using hz
    omega
  subst ho
  simp [execOp, hop, ha.ev hx, Instr.fieldAt, run_underlying hu, hf, Instr.sureAddr, fieldPlace, hs, hz']
--@ rule fieldAddr p o_faddrR
theorem o_faddrR {s : TypeId} {fs : Array Field} {f : Field} {i off fsz k : Nat} {A : Option Addr} (hx : fr.ev x = some (.pointer (some (adr A k)))) (hu : P.underlying s = some (.struct fs)) (hf : fs[i]? = some f) (hs : ∀ w, (sizeOf f.type).run P w = .ok fsz w) (hz : Nat.blt 0 fsz = true) (ho : f.offset = off) :
    OpV P N fr w (.fieldAddr s x i) ty (.pointer (some (adr A (k + off)))) w := o_as (o_faddrA hu hf hs hz ho hx) (by rw [adr_add])
theorem o_loadA1 (ha' : ∀ w, (isAgg t).run P w = .ok false w) (hx : fr.ev x = some (.pointer (some (adr A i)))) (hr : Reads w sz A n xs) (hv : xs[i]? = some v) : OpV P N fr w (.load t x) ty v w :=
  o_load ha' hx ((hr.adr_ (fun e => by rw [e] at hv; cases hv)).2 _ _ hv)
--@ rule load r o_loadB
--@ rule load r o_loadZ
theorem o_loadB {j : Nat} {bs : List UInt8} (ha' : ∀ w, (isAgg t).run P w = .ok false w) (hx : fr.ev x = some (.pointer (some (adr A j)))) (hr : Rd w A bs) (hj : j < bs.length) : OpV P N fr w (.load t x) ty (.int .u8 (bs[j].toNat : Int)) w :=
  o_loadA1 ha' hx hr (B8_get bs j hj)
theorem o_loadZ {j : Nat} {zs : List Int} (ha' : ∀ w, (isAgg t).run P w = .ok false w) (hx : fr.ev x = some (.pointer (some (adr A j)))) (hr : Reads w 1 A n (zs.map (Value.int ik))) (hj : j < zs.length) : OpV P N fr w (.load t x) ty (.int ik zs[j]) w :=
  o_loadA1 ha' hx hr (by rw [List.getElem?_map, List.getElem?_eq_getElem hj]; rfl)
end

/-! Literals of structs and arrays. -/
def lay (offs : Nat → Nat) : List Value → List (Nat × Value) → List Value
  | L, [] => L
  | L, (i, v) :: r => lay offs (spl L (offs i) v.cells.toList) r
--@ rule build p o_buildg
--@ rule build p o_buildga
theorem o_buildg {ps : Array (Nat × Operand)} {is : List Nat} {xs : List Operand} {vs : List Value} {fs : Array Field} (cs : List Value) (hu : P.underlying t = some (.struct fs)) (hz : ∀ w, (zeroValue t).run P w = .ok z w) (his : ps.toList.map Prod.fst = is) (hxs : ps.toList.map Prod.snd = xs) (hx : fr.evs xs = some vs)
    (hc : lay (fun i => ((fs[i]?).map (fun f => f.offset)).getD 0) z.cells.toList (is.zip vs) = cs) (hps : ps = (is.zip xs).toArray) (hr : ∀ w, (Instr.build t (is.zip vs).toArray).run P w = .ok (.agg cs.toArray) w) : OpV P N fr w (.build t ps) ty (.agg cs.toArray) w := by
  subst hps
  exact o_build hx hr
theorem o_buildga {ps : Array (Nat × Operand)} {is : List Nat} {xs : List Operand} {vs : List Value} (cs : List Value) (hu : P.underlying t = some (.array n e)) (hs : ∀ w, (sizeOf e).run P w = .ok sz w) (hz : ∀ w, (zeroValue t).run P w = .ok z w) (his : ps.toList.map Prod.fst = is) (hxs : ps.toList.map Prod.snd = xs) (hx : fr.evs xs = some vs)
    (hc : lay (fun i => i * sz) z.cells.toList (is.zip vs) = cs) (hps : ps = (is.zip xs).toArray) (hr : ∀ w, (Instr.build t (is.zip vs).toArray).run P w = .ok (.agg cs.toArray) w) : OpV P N fr w (.build t ps) ty (.agg cs.toArray) w := by
  subst hps
  exact o_build hx hr

/-! append, literals. -/
theorem run_append_cap0 {P : Program} (w : World) {t e ty : TypeId} {i : TypeInfo} (ht : P.underlying t = some (.slice e)) (hi : P.info? e = some i) (A : Option Addr) {X : Option Addr} {m q : Nat} (hm : 0 < m) (hb : Builtin.nextslicecap m 0 * i.bytes ≤ 281474976710656) :
    (Builtin.append_ #[t, t] ty #[.slice A 0 0, .slice X m q]).run P w = (Builtin.append_ #[t, t] ty #[.slice none 0 0, .slice X m q]).run P w := by
  have h0 : m ≠ 0 := by omega
  have h48' : ¬ (281474976710656 < Builtin.nextslicecap m 0 * i.bytes) := by omega
  have h1 : ∀ w, (Builtin.firstCells i.size 0 (.slice A 0 0)).run P w = .ok #[] w := fun w => by
    cases A <;> simp [Builtin.firstCells, loadCells, loadCellsFrom]
  have h2 : ∀ w, (Builtin.firstCells i.size 0 (.slice none 0 0)).run P w = .ok #[] w := fun w => by
    simp [Builtin.firstCells]
  simp [Builtin.append_, run_underlying ht, sizeOf, typeInfo, hi, Builtin.lenOf, h0, h48', h1, h2]
section
variable {A X : Option Addr} {c j q lo hi : Nat} {xs ms : List Value}
theorem wl_appR (T : RowT P t e z sz bytes) (hx : fr.ev x = some (.slice A n c)) (hown : RowH w lo hi e sz A n c xs) (hy : fr.ev y = some (.slice X j q)) (hr : Reads w sz X j ms) (h1 : ∀ u ∈ ms, u.oneCell' = true) (h63 : n + j ≤ maxLen) (hlen : (n + j) * bytes ≤ 140737488355328) (hB : lo ≤ w.heap.size)
    (h : ∀ A' c' w', RowH w' lo w'.heap.size e sz A' (n + j) c' (xs ++ ms) → Grew w w' e (blk A) → Below lo w w' → (blk A' = blk A ∨ blk A' = some w.heap.size) → WL P fn F N ks ops tg.tail l ((d, .slice A' (n + j) c') :: fr) w')
    (ht : tg.loud = true := by rfl) (hg : onG ops fr gd = true := by rfl) (hd : Nat.blt d N = true := by rfl) (hq : tg.calm = false ∨ blk A = none ∨ blk A = tg.row := by exact .inl rfl) :
    WL P fn F N ks ops tg (⟨some d, .call { callee := .builtin .append, args := #[x, y], argTypes := #[t, t] }, ty, pos, aft, gd⟩ :: l) fr w :=
  wl_appn T hx hown.o hy hr h1 h63 hlen hB (fun A' c' w' h1 h2 h3 h4 => h A' c' w' ⟨h1, fun k hk => (World.ownsRow.lt h1 k (by rw [blk_own]; exact hk)).2⟩ ⟨h2, hown.ty⟩ h4 h3) ht hg hd hq
/-- append to an empty slice without room: nothing that was there changes. -/
theorem wl_appR0 (T : RowT P t e z sz bytes) (hx : fr.ev x = some (.slice A 0 0)) (hown : RowH w lo hi e sz A 0 0 []) (hy : fr.ev y = some (.slice X j q)) (hr : Reads w sz X j ms) (h1 : ∀ u ∈ ms, u.oneCell' = true) (h63 : j ≤ maxLen) (hlen : j * bytes ≤ 140737488355328) (hB : lo ≤ w.heap.size)
    (h : ∀ A' c' w', RowH w' lo w'.heap.size e sz A' j c' ms → Below w.heap.size w w' → WL P fn F N ks ops tg.tail l ((d, .slice A' j c') :: fr) w')
    (ht : tg.loud = true := by rfl) (hg : onG ops fr gd = true := by rfl) (hd : Nat.blt d N = true := by rfl) :
    WL P fn F N ks ops tg (⟨some d, .call { callee := .builtin .append, args := #[x, y], argTypes := #[t, t] }, ty, pos, aft, gd⟩ :: l) fr w := by
  obtain ⟨i, hi, hz, hs, hb⟩ := info_parts T.hi
  rcases Nat.eq_zero_or_pos j with h0 | h0
  · subst h0
    have hm : ms = [] := List.eq_nil_of_length_eq_zero (by rw [hr.1]; simp)
    subst hm
    have hrun : (Builtin.append_ #[t, t] ty #[.slice A 0 0, .slice X 0 q]).run P w = .ok (.slice A 0 0) w := by
      have hst : ∀ a : Addr, (storeCells a [] 0).run P w = .ok () w := fun a => by simp [storeCells]
      have hf : (Builtin.firstCells i.size 0 (.slice X 0 q)).run P w = .ok #[] w := by cases X <;> simp [Builtin.firstCells, loadCells, loadCellsFrom]
      cases A <;> simp [Builtin.append_, run_underlying T.ht, sizeOf, typeInfo, hi, Builtin.lenOf, hf, storeCells]
    exact wl_v (o_builtin (xs := [x, y]) (vs := [.slice A 0 0, .slice X 0 q]) (by simp [Fr.evs, hx, hy]) (by simp [builtin, hrun]) (by simp)) (h A 0 w ⟨hown.o, fun k hk => (hown.lt k hk).2⟩ (Below.refl _ _)) ht hg hd (.inr (grown_of_below (Below.refl _ _) _))
  · obtain ⟨v', w', hrun, h2, h3, h4⟩ := run_append_any (P := P) w w.heap.size t ty e i z sz bytes T.ht hi hz hs hb T.hz T.h0 (.slice none 0 0) 0 [] (World.ownsRow_nil _ _ _ _) X j q ms hr h1 (by omega) (by rw [Nat.zero_add]; exact hlen) (Nat.le_refl _)
    obtain ⟨A', c', rfl⟩ := ownsRow_shape h2
    rw [← run_append_cap0 (P := P) w T.ht hi A h0 (by rw [nextslicecap_zero h0, hb]; omega)] at hrun
    have hbl : Below w.heap.size w w' := below_of_grown_none h3
    simp only [Nat.zero_add, List.nil_append] at h2 hrun
    have hR : RowH w' w.heap.size w'.heap.size e sz A' j c' ms := ⟨h2, fun k hk => (World.ownsRow.lt h2 k (by rw [blk_own]; exact hk)).2⟩
    exact wl_v (o_builtin (xs := [x, y]) (vs := [.slice A 0 0, .slice X j q]) (by simp [Fr.evs, hx, hy]) (by simp [builtin, hrun]) (by simp)) (h A' c' w' (hR.base hB (Nat.le_refl _)) hbl) ht hg hd (.inr (grown_of_below hbl _))
--@ rule append l wl_appB
theorem wl_appB (T : U8 P t) {s m : List UInt8} (hx : fr.ev x = some (.slice A n c)) (hown : OwnH w lo hi A c s) (hn : n = s.length) (hy : fr.ev y = some (.slice X j q)) (hr : Rd w X m) (hj : j = m.length) (hlen : s.length + m.length ≤ 4000000000) (hB : lo ≤ w.heap.size)
    (h : ∀ A' c' w', OwnH w' lo w'.heap.size A' c' (s ++ m) → Grew w w' 5 (blk A) → Below lo w w' → (blk A' = blk A ∨ blk A' = some w.heap.size) → WL P fn F N ks ops tg.tail l ((d, .slice A' (s ++ m).length c') :: fr) w')
    (ht : tg.loud = true := by rfl) (hg : onG ops fr gd = true := by rfl) (hd : Nat.blt d N = true := by rfl) (hq : tg.calm = false ∨ blk A = none ∨ blk A = tg.row := by exact .inl rfl) :
    WL P fn F N ks ops tg (⟨some d, .call { callee := .builtin .append, args := #[x, y], argTypes := #[t, t] }, ty, pos, aft, gd⟩ :: l) fr w :=
  wl_app T hx hn hown.o hy hj hr (by omega) hB (fun A' c' w' h1 h2 h3 h4 => h A' c' w' h1.h_ ⟨h2, RowH.ty hown⟩ h4 h3) ht hg hd hq
/-- A slice literal. -/
theorem wl_litR {ps : Array (Nat × Operand)} {xs : List Operand} {vs : List Value} (T : RowT P t e z sz bytes) (hs : ∀ w, (sizeOf e).run P w = .ok sz w) (hz : ∀ w, (zeroValue e).run P w = .ok z w) (hxs : ps.toList.map Prod.snd = xs) (hps : ps = ((List.range' 0 n).zip xs).toArray) (hx : fr.evs xs = some vs) (hn : vs.length = n) (h1 : ∀ v ∈ vs, v.cells.size = sz) (hm : Nat.ble (n * sz) 1000000 = true)
    (hk : ∀ A w', RowH w' w.heap.size w'.heap.size e sz A n n (vs.flatMap fun v => v.cells.toList) → Below w.heap.size w w' → WL P fn F N ks ops tg.tail l ((d, .slice A n n) :: fr) w')
    (ht : tg.loud = true := by rfl) (hg : onG ops fr gd = true := by rfl) (hd : Nat.blt d N = true := by rfl) : WL P fn F N ks ops tg (⟨some d, .buildSlice t n ps, ty, pos, aft, gd⟩ :: l) fr w := by
  subst hps
  refine wl_litn T hs hz n hx hn h1 hm (fun w' h1 h2 h3 => hk _ w' ⟨h1 _ (Nat.le_refl _), fun k hk => ?_⟩ h2) ht hg hd
  have : w.heap.size = k := by simpa [blk] using hk
  omega
--@ rule buildSlice l wl_litB
theorem wl_litB {ps : Array (Nat × Operand)} {xs : List Operand} {vs : List Value} (bs : List UInt8) (T : U8 P t) (hs : ∀ w, (sizeOf 5).run P w = .ok 1 w) (hz : ∀ w, (zeroValue 5).run P w = .ok (.int .u8 0) w) (hxs : ps.toList.map Prod.snd = xs) (hx : fr.evs xs = some vs) (hv : vs = B8 bs) (hn : bs.length = n) (hps : ps = ((List.range' 0 n).zip xs).toArray) (hm : Nat.ble bs.length 1000000 = true)
    (hk : ∀ A w', OwnH w' w.heap.size w'.heap.size A n bs → Below w.heap.size w w' → WL P fn F N ks ops tg.tail l ((d, .slice A n n) :: fr) w')
    (ht : tg.loud = true := by rfl) (hg : onG ops fr gd = true := by rfl) (hd : Nat.blt d N = true := by rfl) : WL P fn F N ks ops tg (⟨some d, .buildSlice t n ps, ty, pos, aft, gd⟩ :: l) fr w := by
  subst hps; subst hv; subst hn
  exact wl_lit8 bs T hs hz hx hm (fun w' h1 h2 _ => hk _ w' h1.h_ h2) ht hg hd
end
end
end Go.Proofs.YtklijaahbahcoaaDoor
/-
  Data as it lies in memory, by the shape of its Go type; arguments of a law opened. No function of the program is named here.
-/
namespace Go.Proofs.YtklijaahbahcoaaDoor
set_option maxRecDepth 100000
open Go.ChangeShapes Go.WideShapes Go.ChangeAt Go.RowKit

/-- How values of a Go type lie in memory: sz cells; R: as they read; T: with the types of the blocks that they reach. -/
structure GoT (α : Type) where
  sz : Nat
  tys : List TypeId
  R : World → List Value → α → Prop
  T : World → List Value → α → Prop
  len : ∀ {w cs a}, R w cs a → cs.length = sz
  u : ∀ {w w' cs a}, R w cs a → Below w.heap.size w w' → R w' cs a
  tr : ∀ {w cs a}, T w cs a → R w cs a
  tu : ∀ {w w' cs a}, T w cs a → Below w.heap.size w w' → T w' cs a
  ty : ∀ {w w' cs a e row}, T w cs a → Grew w w' e row → e ∉ tys → T w' cs a
  tm : ∀ {w w' cs a b}, T w cs a → GrewM w w' b → T w' cs a
theorem below_drew (w : World) : Below w.heap.size w w.drew := (Below.refl _ w).drew

/-- A value that one cell holds, and nothing in memory. -/
def GoT.flat {α : Type} (f : α → Value) (p : α → Prop) : GoT α where
  sz := 1
  tys := []
  R _ cs a := cs = [f a] ∧ p a
  T _ cs a := cs = [f a] ∧ p a
  len h := by rw [h.1]; rfl
  u h _ := h
  tr h := h
  tu h _ := h
  ty h _ _ := h
  tm h _ := h
def gInt (k : IntKind) : GoT Int := GoT.flat (Value.int k) (fun n => (Lit.int k n).wf = true)
def gBool : GoT Bool := GoT.flat Value.bool (fun _ => True)
def gStr : GoT (List UInt8) := GoT.flat (fun s => Value.string ⟨s.toArray⟩) (fun s => s.length ≤ maxLen)

theorem grew_blk {w w' : World} {e e' : TypeId} {row : Option Nat} (hg : Grew w w' e' row) {A : Option Addr} (ht : ∀ k, blk A = some k → TyAt w k e) (hne : e' ≠ e) : blk A = none ∨ blk A ≠ row := by
  cases hA : blk A with
  | none => exact .inl rfl
  | some k =>
    refine .inr (fun ek => ?_)
    obtain ⟨_, _, h1⟩ := ht k hA
    obtain ⟨_, _, h2⟩ := hg.ty k ek.symm
    rw [h1] at h2
    injection h2 with h2
    injection h2 with _ h2
    exact hne h2.symm
theorem growm_blk {w w' : World} {e : TypeId} {b : Nat} (hg : GrewM w w' b) {A : Option Addr} (ht : ∀ k, blk A = some k → TyAt w k e) : blk A = none ∨ blk A ≠ some b := by
  cases hA : blk A with
  | none => exact .inl rfl
  | some k =>
    refine .inr (fun ek => ?_)
    obtain ⟨_, _, h1⟩ := ht k hA
    obtain ⟨_, _, h2⟩ := hg.m
    injection ek with ek
    subst ek
    rw [h1] at h2
    cases h2
theorem TyAt.lt {w : World} {k : Nat} {e : TypeId} (h : TyAt w k e) : k < w.heap.size := by
  obtain ⟨_, _, h⟩ := h
  rcases Nat.lt_or_ge k w.heap.size with h1 | h1
  · exact h1
  · rw [Array.getElem?_eq_none h1] at h; cases h
theorem TyAt.keep {w w' : World} {k : Nat} {e : TypeId} (h : TyAt w k e) (hb : w'.heap[k]? = w.heap[k]?) : TyAt w' k e := by
  obtain ⟨cs, f, h⟩ := h
  exact ⟨cs, f, hb.trans h⟩

/-- Bytes that lie in rows of bytes. -/
def RdT (w : World) (A : Option Addr) (l : List UInt8) : Prop := Rd w A l ∧ ∀ k, blk A = some k → TyAt w k 5
section
variable {w w' : World} {A : Option Addr} {l : List UInt8} {e : TypeId} {row : Option Nat} {b lo hi c : Nat}
theorem RdT.u (h : RdT w A l) (hb : Below w.heap.size w w') : RdT w' A l := ⟨h.1.below hb, fun k hk => (h.2 k hk).keep (hb.block k (h.2 k hk).lt)⟩
theorem RdT.d (h : RdT w A l) : RdT w.drew A l := h
theorem RdT.to_Rd (h : RdT w A l) : Rd w A l := h.1
theorem RdT.to_Reads (h : RdT w A l) : Reads w 1 A l.length (B8 l) := h.1
theorem RdT.nil_ : RdT w none [] := ⟨Rd.nil _ _, fun k hk => by cases hk⟩
theorem RdT.y (h : RdT w A l) (hg : Grew w w' e row) (hne : e ≠ 5) : RdT w' A l := by
  have hne' := grew_blk hg h.2 hne
  refine ⟨h.1.grown hg.g hne', fun k hk => (h.2 k hk).keep (hg.g.block k (h.2 k hk).lt (fun e => ?_))⟩
  rcases hne' with h1 | h1
  · rw [h1] at hk; cases hk
  · exact h1 (hk.trans e)
theorem RdT.m (h : RdT w A l) (hg : GrewM w w' b) : RdT w' A l := by
  have hne' := growm_blk hg h.2
  refine ⟨h.1.grown hg.g hne', fun k hk => (h.2 k hk).keep (hg.g.block k (h.2 k hk).lt (fun e => ?_))⟩
  rcases hne' with h1 | h1
  · rw [h1] at hk; cases hk
  · exact h1 (hk.trans e)
theorem OwnH.to_RdT (h : OwnH w lo hi A c l) : RdT w A l := ⟨h.to_Rd, RowH.ty h⟩
end
def gBytes : GoT (List UInt8) where
  sz := 1
  tys := [5]
  R w cs l := ∃ A c, cs = [.slice A l.length c] ∧ Rd w A l ∧ l.length ≤ c ∧ c ≤ maxLen
  T w cs l := ∃ A c, cs = [.slice A l.length c] ∧ RdT w A l ∧ l.length ≤ c ∧ c ≤ maxLen
  len h := by obtain ⟨A, c, rfl, _⟩ := h; rfl
  u h hb := by obtain ⟨A, c, e, h1, h2⟩ := h; exact ⟨A, c, e, h1.below hb, h2⟩
  tr h := by obtain ⟨A, c, e, h1, h2⟩ := h; exact ⟨A, c, e, h1.1, h2⟩
  tu h hb := by obtain ⟨A, c, e, h1, h2⟩ := h; exact ⟨A, c, e, h1.u hb, h2⟩
  ty h hg hne := by obtain ⟨A, c, e, h1, h2⟩ := h; exact ⟨A, c, e, h1.y hg (by simpa using hne), h2⟩
  tm h hg := by obtain ⟨A, c, e, h1, h2⟩ := h; exact ⟨A, c, e, h1.m hg, h2⟩

/-- An array of n bytes. -/
def gArr (n : Nat) : GoT { l : List UInt8 // l.length = n } where
  sz := n
  tys := []
  R _ cs a := cs = B8 a.1
  T _ cs a := cs = B8 a.1
  len := fun {w cs a} h => by rw [h, B8_length]; exact a.2
  u h _ := h
  tr h := h
  tu h _ := h
  ty h _ _ := h
  tm h _ := h

/-- One after the other. -/
def GoT.pair {α β : Type} (X : GoT α) (Y : GoT β) : GoT (α × β) where
  sz := X.sz + Y.sz
  tys := X.tys ++ Y.tys
  R w cs a := ∃ c1 c2, cs = c1 ++ c2 ∧ X.R w c1 a.1 ∧ Y.R w c2 a.2
  T w cs a := ∃ c1 c2, cs = c1 ++ c2 ∧ X.T w c1 a.1 ∧ Y.T w c2 a.2
  len h := by obtain ⟨c1, c2, rfl, h1, h2⟩ := h; rw [List.length_append, X.len h1, Y.len h2]
  u h hb := by obtain ⟨c1, c2, e, h1, h2⟩ := h; exact ⟨c1, c2, e, X.u h1 hb, Y.u h2 hb⟩
  tr h := by obtain ⟨c1, c2, e, h1, h2⟩ := h; exact ⟨c1, c2, e, X.tr h1, Y.tr h2⟩
  tu h hb := by obtain ⟨c1, c2, e, h1, h2⟩ := h; exact ⟨c1, c2, e, X.tu h1 hb, Y.tu h2 hb⟩
  ty h hg hne := by
    obtain ⟨c1, c2, e, h1, h2⟩ := h
    rw [List.mem_append, not_or] at hne
    exact ⟨c1, c2, e, X.ty h1 hg hne.1, Y.ty h2 hg hne.2⟩
  tm h hg := by obtain ⟨c1, c2, e, h1, h2⟩ := h; exact ⟨c1, c2, e, X.tm h1 hg, Y.tm h2 hg⟩
/-- In other words. -/
def GoT.map {α β : Type} (f : α → β) (X : GoT α) : GoT β where
  sz := X.sz
  tys := X.tys
  R w cs b := ∃ a, f a = b ∧ X.R w cs a
  T w cs b := ∃ a, f a = b ∧ X.T w cs a
  len h := by obtain ⟨a, _, h⟩ := h; exact X.len h
  u h hb := by obtain ⟨a, e, h⟩ := h; exact ⟨a, e, X.u h hb⟩
  tr h := by obtain ⟨a, e, h⟩ := h; exact ⟨a, e, X.tr h⟩
  tu h hb := by obtain ⟨a, e, h⟩ := h; exact ⟨a, e, X.tu h hb⟩
  ty h hg hne := by obtain ⟨a, e, h⟩ := h; exact ⟨a, e, X.ty h hg hne⟩
  tm h hg := by obtain ⟨a, e, h⟩ := h; exact ⟨a, e, X.tm h hg⟩

/-- Part i of the cells xs, parts of m cells. -/
def part (xs : List Value) (m i : Nat) : List Value := (xs.drop (i * m)).take m
theorem part_get {xs : List Value} {m i j : Nat} (hj : j < m) : (part xs m i)[j]? = xs[i * m + j]? := by
  unfold part
  rw [List.getElem?_take_of_lt hj, List.getElem?_drop]
/-- The cells at A, from the k-th on. -/
def CellsAt (w : World) (A : Option Addr) (k : Nat) (cs : List Value) : Prop := ∀ j v, cs[j]? = some v → w.cell? (adr A (k + j)) = some v
section
variable {w w' : World} {A : Option Addr} {k n m : Nat} {cs xs : List Value}
theorem CellsAt.u (h : CellsAt w A k cs) (hb : Below w.heap.size w w') : CellsAt w' A k cs := fun j v hj => (hb.cell (block_lt_of_cell (h j v hj))).trans (h j v hj)
theorem CellsAt.d (h : CellsAt w A k cs) : CellsAt w.drew A k cs := h
theorem Reads.cellsAt {i : Nat} (h : Reads w m A n xs) (hi : i < n) (h0 : 0 < m) : CellsAt w A (i * m) (part xs m i) := fun j v hj => by
  have hne : xs ≠ [] := fun e => by
    have := h.1
    rw [e, List.length_nil] at this
    rcases Nat.mul_eq_zero.1 this.symm with h | h <;> omega
  have hjm : j < m := by
    rcases Nat.lt_or_ge j m with h1 | h1
    · exact h1
    · rw [List.getElem?_eq_none (by unfold part; rw [List.length_take]; omega)] at hj; cases hj
  rw [part_get hjm] at hj
  exact (h.adr_ hne).2 _ _ hj
end
/-- A slice. -/
def GoT.slice {α : Type} (e : TypeId) (X : GoT α) : GoT (List α) where
  sz := 1
  tys := e :: X.tys
  R w cs l := ∃ A c xs, cs = [.slice A l.length c] ∧ l.length ≤ c ∧ c ≤ maxLen ∧ Reads w X.sz A l.length xs ∧ ∀ i (h : i < l.length), X.R w (part xs X.sz i) l[i]
  T w cs l := ∃ A c xs, cs = [.slice A l.length c] ∧ l.length ≤ c ∧ c ≤ maxLen ∧ Reads w X.sz A l.length xs ∧ (∀ k, blk A = some k → TyAt w k e) ∧ ∀ i (h : i < l.length), X.T w (part xs X.sz i) l[i]
  len h := by obtain ⟨A, c, xs, rfl, _⟩ := h; rfl
  u h hb := by obtain ⟨A, c, xs, e, h1, h2, h3, h4⟩ := h; exact ⟨A, c, xs, e, h1, h2, h3.below hb, fun i hi => X.u (h4 i hi) hb⟩
  tr h := by obtain ⟨A, c, xs, e, h1, h2, h3, _, h4⟩ := h; exact ⟨A, c, xs, e, h1, h2, h3, fun i hi => X.tr (h4 i hi)⟩
  tu h hb := by
    obtain ⟨A, c, xs, e, h1, h2, h3, h4, h5⟩ := h
    exact ⟨A, c, xs, e, h1, h2, h3.below hb, fun k hk => (h4 k hk).keep (hb.block k (h4 k hk).lt), fun i hi => X.tu (h5 i hi) hb⟩
  ty h hg hne := by
    obtain ⟨A, c, xs, e, h1, h2, h3, h4, h5⟩ := h
    rw [List.mem_cons, not_or] at hne
    have hb := grew_blk hg h4 hne.1
    refine ⟨A, c, xs, e, h1, h2, h3.grown hg.g hb, fun k hk => (h4 k hk).keep (hg.g.block k (h4 k hk).lt (fun e => ?_)), fun i hi => X.ty (h5 i hi) hg hne.2⟩
    rcases hb with h6 | h6
    · rw [h6] at hk; cases hk
    · exact h6 (hk.trans e)
  tm h hg := by
    obtain ⟨A, c, xs, e, h1, h2, h3, h4, h5⟩ := h
    have hb := growm_blk hg h4
    refine ⟨A, c, xs, e, h1, h2, h3.grown hg.g hb, fun k hk => (h4 k hk).keep (hg.g.block k (h4 k hk).lt (fun e => ?_)), fun i hi => X.tm (h5 i hi) hg⟩
    rcases hb with h6 | h6
    · rw [h6] at hk; cases hk
    · exact h6 (hk.trans e)

/-- The elements of a slice. -/
def RSl {α : Type} (X : GoT α) (w : World) (A : Option Addr) (L : List α) : Prop := ∃ xs, Reads w X.sz A L.length xs ∧ ∀ i (h : i < L.length), X.R w (part xs X.sz i) L[i]
section
variable {α : Type} {X : GoT α} {w w' : World} {A : Option Addr} {L : List α}
theorem RSl.u (h : RSl X w A L) (hb : Below w.heap.size w w') : RSl X w' A L := by obtain ⟨xs, h1, h2⟩ := h; exact ⟨xs, h1.below hb, fun i hi => X.u (h2 i hi) hb⟩
theorem RSl.some_ (h : RSl X w A L) (h0 : 0 < X.sz) (hl : 0 < L.length) : A = some (A.getD ⟨0, 0, none⟩) := by obtain ⟨xs, h1, h2⟩ := h; exact h1.some_ h0 hl
theorem RSl.elem (h : RSl X w A L) (h0 : 0 < X.sz) {i : Nat} (hi : i < L.length) : ∃ cs, CellsAt w A (i * X.sz) cs ∧ X.R w cs L[i] := by obtain ⟨xs, h1, h2⟩ := h; exact ⟨_, h1.cellsAt hi h0, h2 i hi⟩
theorem RSl.nil (X : GoT α) (w : World) (A : Option Addr) : RSl X w A [] := ⟨[], Reads.none_ _ _ _, fun i h => absurd h (Nat.not_lt_zero _)⟩
theorem slice_RSl {e : TypeId} {cs : List Value} (h : (GoT.slice e X).R w cs L) : ∃ A c, cs = [.slice A L.length c] ∧ RSl X w A L ∧ L.length ≤ c ∧ c ≤ maxLen := by
  obtain ⟨A, c, xs, rfl, h1, h2, h3, h4⟩ := h
  exact ⟨A, c, rfl, ⟨xs, h3, h4⟩, h1, h2⟩
end

/-! Arguments, opened. -/
/-- Whatever is read of type t is a value of X. -/
structure Opens {α : Type} (P : Program) (t : TypeId) (X : GoT α) : Prop where
  cells : P.cellsOf t = X.sz
  o : ∀ (H : Type) (enc : TypeId × Value → H) (W : World) (fuel : Nat) (cs : List Value) (x : DataW H × List MemPlace), DataW.trod enc P W 0 (fun _ => true) true fuel t cs = some x → ∃ a, X.R W cs a
section
variable {α β γ δ : Type} {P : Program} {t e : TypeId}
theorem opens_int {k : IntKind} (hu : P.underlying t = some (.int k)) (hc : P.cellsOf t = 1) : Opens P t (gInt k) := ⟨hc, fun H enc W fuel cs x h => by
  obtain ⟨n, rfl, _, hw⟩ := DataW.trod_int hu h
  exact ⟨n, rfl, hw⟩⟩
theorem opens_bool (hu : P.underlying t = some .bool) (hc : P.cellsOf t = 1) : Opens P t gBool := ⟨hc, fun H enc W fuel cs x h => by
  obtain ⟨n, rfl, _⟩ := DataW.trod_bool hu h
  exact ⟨n, rfl, trivial⟩⟩
theorem opens_bytes (hu : P.underlying t = some (.slice 5)) (he : P.underlying 5 = some (.int .u8)) (hc : P.cellsOf 5 = 1) (ht : P.cellsOf t = 1) : Opens P t gBytes := ⟨ht, fun H enc W fuel cs x h => by
  rcases open_ints hu he hc h with ⟨hcs, hx⟩ | ⟨a, len, cap, zs, hcs, _, hl, hm, hz, hx, hcell, hwz⟩
  · exact ⟨[], none, 0, hcs, Rd.nil _ _, Nat.le_refl _, Nat.zero_le _⟩
  · have hzl : zs.length = cap := by simpa using hz
    have hr : Reads W 1 (some a) (zs.take len).length ((zs.take len).map (Value.int .u8)) := by
      have := reads_of_cells (w := W) (a := a) (xs := (zs.take len).map (Value.int .u8)) (fun i v hv => by
        have hi : i < (zs.take len).length := by
          rcases Nat.lt_or_ge i (zs.take len).length with h | h
          · exact h
          · rw [List.getElem?_eq_none (by simpa using h)] at hv; cases hv
        rw [List.length_take] at hi
        rw [hcell i (by omega)]
        have hi2 : i < zs.length := by omega
        rw [List.getElem?_map, List.getElem?_take_of_lt (by omega), List.getElem?_eq_getElem hi2] at hv
        rw [← Option.some.inj hv]
        simp [hi2])
      simpa using this
    have hb : ∀ n ∈ zs.take len, n = (((UInt8.ofNat n.toNat).toNat : Nat) : Int) := fun n hn => by
      have h1 := bounds_u8 (hwz n (List.mem_of_mem_take hn))
      exact byte_of n h1.1 h1.2
    have e : (zs.take len).map (Value.int .u8) = B8 ((zs.take len).map fun n => UInt8.ofNat n.toNat) := by
      unfold B8
      rw [List.map_map]
      exact List.map_congr_left fun n hn => by simp only [Function.comp]; rw [← hb n hn]
    refine ⟨(zs.take len).map fun n => UInt8.ofNat n.toNat, some a, cap, ?_, ?_, by simp; omega, hm⟩
    · rw [hcs]; simp; omega
    · unfold Rd
      rw [← e, List.length_map]
      exact hr⟩
theorem part_append_lt {xs ys : List Value} {m i k : Nat} (hx : xs.length = k * m) (hi : i < k) : part (xs ++ ys) m i = part xs m i := by
  have h1 : (i + 1) * m ≤ k * m := Nat.mul_le_mul_right _ hi
  rw [Nat.add_mul, Nat.one_mul] at h1
  unfold part
  rw [List.drop_append_of_le_length (by omega), List.take_append_of_le_length (by rw [List.length_drop]; omega)]
theorem part_append_eq {xs ys : List Value} {m k : Nat} (hx : xs.length = k * m) (hy : ys.length = m) : part (xs ++ ys) m k = ys := by
  unfold part
  rw [← hx, List.drop_left, ← hy, List.take_length]
theorem build_rows {X : GoT α} {W : World} {a : Addr} : ∀ (k : Nat), (∀ i, i < k → ∃ cs' z, W.cells? 0 (a.add (i * X.sz)) X.sz = some cs' ∧ X.R W cs' z) →
    ∃ (l : List α) (xs : List Value), l.length = k ∧ xs.length = k * X.sz ∧ (∀ j v, xs[j]? = some v → W.cell? (a.add j) = some v) ∧ ∀ i (h : i < l.length), X.R W (part xs X.sz i) l[i]
  | 0, _ => ⟨[], [], rfl, by simp, fun j v h => by simp at h, fun i h => absurd h (Nat.not_lt_zero _)⟩
  | k + 1, h => by
    obtain ⟨l, xs, h1, h2, h3, h4⟩ := build_rows k (fun i hi => h i (by omega))
    obtain ⟨cs', z, h5, h6⟩ := h k (by omega)
    obtain ⟨_, h7, h8⟩ := World.cells?_some h5
    refine ⟨l ++ [z], xs ++ cs', by simp [h1], by rw [List.length_append, h2, h7, Nat.add_mul, Nat.one_mul], fun j v hj => ?_, fun i hi => ?_⟩
    · rcases Nat.lt_or_ge j xs.length with hl | hl
      · rw [List.getElem?_append_left hl] at hj
        exact h3 j v hj
      · rw [List.getElem?_append_right hl] at hj
        have hjl : j - xs.length < X.sz := by
          rcases Nat.lt_or_ge (j - xs.length) X.sz with h9 | h9
          · exact h9
          · rw [List.getElem?_eq_none (by omega)] at hj; cases hj
        have := h8 _ hjl
        rw [hj, add_of_add] at this
        rw [← this]
        congr 2
        omega
    · rcases Nat.lt_or_ge i l.length with hl | hl
      · rw [part_append_lt h2 (by omega), List.getElem_append_left hl]
        exact h4 i hl
      · have hik : i = k := by simp at hi; omega
        subst hik
        rw [part_append_eq h2 h7, List.getElem_append_right hl]
        simpa using h6
theorem opens_slice {X : GoT α} (hu : P.underlying t = some (.slice e)) (hc : P.cellsOf t = 1) (h0 : 0 < X.sz) (hX : Opens P e X) : Opens P t (GoT.slice e X) := ⟨hc, fun H enc W fuel cs x h => by
  rcases Go.Deep.open_slice hu h with ⟨rfl, _⟩ | ⟨a, len, cap, m, n, D, Pl, rfl, _, hl, hm, hmm, _, hx⟩
  · exact ⟨[], none, 0, [], rfl, Nat.le_refl _, Nat.zero_le _, Reads.none_ _ _ _, fun i h => absurd h (Nat.not_lt_zero _)⟩
  · rw [if_pos rfl] at hmm
    subst hmm
    obtain ⟨l, xs, h1, h2, h3, h4⟩ := build_rows (X := X) (W := W) (a := a) len (fun i hi => by
      obtain ⟨cs', h1, h2⟩ := hx i (by omega)
      obtain ⟨z, hz⟩ := hX.o _ _ _ _ _ _ h2
      rw [hX.cells] at h1
      exact ⟨cs', z, h1, hz⟩)
    refine ⟨l, some a, m, xs, by rw [h1], by omega, hm, ⟨by rw [h1]; exact h2, fun hn => ?_⟩, h4⟩
    have h00 : ∃ v, xs[0]? = some v := by
      cases xs with
      | nil => exact absurd rfl hn
      | cons x _ => exact ⟨x, rfl⟩
    obtain ⟨v0, hv0⟩ := h00
    have hc := h3 0 v0 hv0
    rw [show a.add 0 = a by simp [Addr.add]] at hc
    have hs := spot_of_cell hc
    exact ⟨a.block, a.off, by rw [← hs], fun j u hu => by rw [← add_plain, ← hs]; exact h3 j u hu⟩⟩
theorem opens_arr8 {n : Nat} (hu : P.underlying t = some (.array n 5)) (he : P.underlying 5 = some (.int .u8)) (hc : P.cellsOf 5 = 1) (ht : P.cellsOf t = n) : Opens P t (gArr n) := ⟨ht, fun H enc W fuel cs x h => by
  obtain ⟨xs, m, _, _, hl, _, hx⟩ := DataW.trod_array hu h
  rw [ht] at hl
  obtain ⟨l, rfl⟩ := bytes_of_vals cs (fun v hv => by
    obtain ⟨i, hi, rfl⟩ := List.mem_iff_getElem.1 hv
    have h1 := hx i (by omega)
    rw [hc, Nat.mul_one, List.drop_eq_getElem_cons hi, List.take_succ_cons, List.take_zero] at h1
    have hxi : i < xs.length := by omega
    rw [List.getElem?_eq_getElem hxi] at h1
    obtain ⟨z, e, _, hw⟩ := DataW.trod_int he h1
    injection e with e _
    exact ⟨z, e, bounds_u8 hw⟩)
  exact ⟨⟨l, by rw [← hl, B8_length]⟩, rfl⟩⟩
/-- Fields, one after the other. -/
inductive OpensF (P : Program) : (α : Type) → List Field → Nat → GoT α → Prop where
  | one {α : Type} {f : Field} {off : Nat} {X : GoT α} (h : Opens P f.type X) (ho : f.offset = off) : OpensF P α [f] off X
  | more {α β : Type} {f : Field} {fs : List Field} {off : Nat} {X : GoT α} {Y : GoT β} (h : Opens P f.type X) (ho : f.offset = off) (hr : OpensF P β fs (off + X.sz) Y) : OpensF P (α × β) (f :: fs) off (X.pair Y)
theorem OpensF.open_ {α : Type} {fs : List Field} {off : Nat} {X : GoT α} (hF : OpensF P α fs off X) (H : Type) (enc : TypeId × Value → H) (W : World) (fuel : Nat) : ∀ (cs : List Value), cs.length = off + X.sz →
    (∀ (i : Nat) (f : Field), fs[i]? = some f → ∃ x, DataW.trod enc P W 0 (fun _ => true) true fuel f.type ((cs.drop f.offset).take (P.cellsOf f.type)) = some x) → ∃ a, X.R W (cs.drop off) a := by
  induction hF with
  | one h ho =>
    intro cs hl hx
    obtain ⟨x, h1⟩ := hx 0 _ rfl
    rw [ho, h.cells] at h1
    obtain ⟨a, ha⟩ := h.o _ _ _ _ _ _ h1
    rw [List.take_of_length_le (by rw [List.length_drop]; omega)] at ha
    exact ⟨a, ha⟩
  | @more α β f fs off X Y h ho hr ih =>
    intro cs hl hx
    have hl' : cs.length = off + (X.sz + Y.sz) := hl
    obtain ⟨x, h1⟩ := hx 0 f rfl
    rw [ho, h.cells] at h1
    obtain ⟨a, ha⟩ := h.o _ _ _ _ _ _ h1
    obtain ⟨b, hb⟩ := ih cs (by omega) (fun i f' hf => hx (i + 1) f' (by simpa using hf))
    refine ⟨(a, b), _, _, ?_, ha, hb⟩
    rw [← List.drop_drop, List.take_append_drop]
theorem opens_struct {α : Type} {fs : List Field} {X : GoT α} (hu : P.underlying t = some (.struct fs.toArray)) (hc : P.cellsOf t = X.sz) (hF : OpensF P α fs 0 X) : Opens P t X := ⟨hc, fun H enc W fuel cs x h => by
  obtain ⟨xs, n, rfl, _, hl, hn, hx⟩ := DataW.trod_struct hu h
  have := hF.open_ H enc W n cs (by rw [hl, hc]; omega) (fun i f hf => by
    have h1 := hx i f (by simpa using hf)
    have hi : i < xs.length := by
      rw [hn]
      rcases Nat.lt_or_ge i fs.toArray.size with h2 | h2
      · exact h2
      · rw [List.getElem?_eq_none (by simpa using h2)] at hf; cases hf
    rw [List.getElem?_eq_getElem hi] at h1
    exact ⟨_, h1⟩)
  simpa using this⟩
theorem opens_map {α β : Type} {f : α → β} {X : GoT α} (h : Opens P t X) : Opens P t (X.map f) := ⟨h.cells, fun H enc W fuel cs x hx => by
  obtain ⟨a, ha⟩ := h.o _ _ _ _ _ _ hx
  exact ⟨f a, a, rfl, ha⟩⟩
end
/-- A law's argument, of a struct's or an array's type. -/
theorem open_agg {α : Type} {H : Type} {enc : TypeId × Value → H} {P : Program} {W : World} {base : Nat} {t : TypeId} {X : GoT α} (hX : Opens P t X) (hu : (∃ fs, P.underlying t = some (.struct fs)) ∨ ∃ n e, P.underlying t = some (.array n e)) {v : Value} {d : DataW H} {p : List MemPlace}
    (hok : Value.okWide P W .any base t v) (h : DataW.Trod enc P W 0 (fun _ => true) true t v d p) : ∃ (cs : List Value) (a : α), v = .agg cs.toArray ∧ X.R W cs a := by
  obtain ⟨fuel, hf⟩ := h
  obtain ⟨a, ha⟩ := hX.o _ _ _ _ _ _ hf
  have hv : ∃ cs, v = .agg cs := by
    rcases hu with ⟨fs, hu⟩ | ⟨n, e, hu⟩ <;> (simp only [Value.okWide, hu] at hok; obtain ⟨cs, rfl, _⟩ := hok; exact ⟨cs, rfl⟩)
  obtain ⟨cs, rfl⟩ := hv
  exact ⟨cs.toList, a, rfl, ha⟩
theorem open_slc {α : Type} {H : Type} {enc : TypeId × Value → H} {P : Program} {W : World} {base : Nat} {t e : TypeId} {X : GoT α} (hX : Opens P t X) (hu : P.underlying t = some (.slice e)) {v : Value} {d : DataW H} {p : List MemPlace}
    (hok : Value.okWide P W .any base t v) (h : DataW.Trod enc P W 0 (fun _ => true) true t v d p) : ∃ (a : α), X.R W [v] a := by
  obtain ⟨A, n, c, rfl⟩ := okWide_slice hu hok
  obtain ⟨fuel, hf⟩ := h
  exact hX.o _ _ _ _ _ _ hf
end Go.Proofs.YtklijaahbahcoaaDoor
/-
  Rows of values of any Go type: slices of the call's own, literals, appends. No function of the program is named here.
-/
namespace Go.Proofs.YtklijaahbahcoaaDoor
set_option maxRecDepth 100000
open Go.RowKit
theorem part_flatMap {f : Value → List Value} {m : Nat} : ∀ (vs : List Value) (_ : ∀ v ∈ vs, (f v).length = m) (i : Nat) (hi : i < vs.length), part (vs.flatMap f) m i = f vs[i]
  | v :: vs, h, 0, _ => by
    simp only [part, Nat.zero_mul, List.drop_zero, List.flatMap_cons, List.getElem_cons_zero]
    rw [← h v (by simp)]
    exact List.take_left
  | v :: vs, h, i + 1, hi => by
    have ih := part_flatMap vs (fun u hu => h u (by simp [hu])) i (by simpa using hi)
    simp only [part, List.flatMap_cons, List.getElem_cons_succ] at ih ⊢
    rw [← ih, show (i + 1) * m = (f v).length + i * m by rw [h v (by simp), Nat.add_mul]; omega, ← List.drop_drop, List.drop_left]
section
variable {α : Type} {X : GoT α} {e e' : TypeId} {w w' : World} {lo hi lo' hi' c b : Nat} {A : Option Addr} {L M : List α} {row : Option Nat}
/-- Elements that are read, with the types of what they reach. -/
def RSlT (X : GoT α) (e : TypeId) (w : World) (A : Option Addr) (L : List α) : Prop := ∃ xs, Reads w X.sz A L.length xs ∧ (∀ k, blk A = some k → TyAt w k e) ∧ ∀ i (h : i < L.length), X.T w (part xs X.sz i) L[i]
theorem RSlT.u (h : RSlT X e w A L) (hb : Below w.heap.size w w') : RSlT X e w' A L := by
  obtain ⟨xs, h1, h2, h3⟩ := h
  exact ⟨xs, h1.below hb, fun k hk => (h2 k hk).keep (hb.block k (h2 k hk).lt), fun i hi => X.tu (h3 i hi) hb⟩
theorem RSlT.d (h : RSlT X e w A L) : RSlT X e w.drew A L := h.u (below_drew w)
theorem RSlT.y (h : RSlT X e w A L) (hg : Grew w w' e' row) (hne : e' ∉ e :: X.tys) : RSlT X e w' A L := by
  obtain ⟨xs, h3, h4, h5⟩ := h
  rw [List.mem_cons, not_or] at hne
  have hb := grew_blk hg h4 hne.1
  refine ⟨xs, h3.grown hg.g hb, fun k hk => (h4 k hk).keep (hg.g.block k (h4 k hk).lt (fun e => ?_)), fun i hi => X.ty (h5 i hi) hg hne.2⟩
  rcases hb with h6 | h6
  · rw [h6] at hk; cases hk
  · exact h6 (hk.trans e)
theorem RSlT.m (h : RSlT X e w A L) (hg : GrewM w w' b) : RSlT X e w' A L := by
  obtain ⟨xs, h3, h4, h5⟩ := h
  have hb := growm_blk hg h4
  refine ⟨xs, h3.grown hg.g hb, fun k hk => (h4 k hk).keep (hg.g.block k (h4 k hk).lt (fun e => ?_)), fun i hi => X.tm (h5 i hi) hg⟩
  rcases hb with h6 | h6
  · rw [h6] at hk; cases hk
  · exact h6 (hk.trans e)
theorem RSlT.nil_ : RSlT X e w none [] := ⟨[], Reads.none_ _ _ _, fun k hk => (by cases hk), fun i h => absurd h (Nat.not_lt_zero _)⟩
theorem RSlT.to_RSl (h : RSlT X e w A L) : RSl X w A L := by obtain ⟨xs, h1, h2, h3⟩ := h; exact ⟨xs, h1, fun i hi => X.tr (h3 i hi)⟩
/-- Elements of a row of the call's own. -/
def OwnS (X : GoT α) (e : TypeId) (w : World) (lo hi : Nat) (A : Option Addr) (c : Nat) (L : List α) : Prop := ∃ xs, RowH w lo hi e X.sz A L.length c xs ∧ ∀ i (h : i < L.length), X.T w (part xs X.sz i) L[i]
theorem OwnS.u (h : OwnS X e w lo hi A c L) (hb : Below w.heap.size w w') : OwnS X e w' lo hi A c L := by
  obtain ⟨xs, h1, h2⟩ := h
  exact ⟨xs, h1.u hb, fun i hi => X.tu (h2 i hi) hb⟩
theorem OwnS.d (h : OwnS X e w lo hi A c L) : OwnS X e w.drew lo hi A c L := h.u (below_drew w)
theorem OwnS.y (h : OwnS X e w lo hi A c L) (hg : Grew w w' e' row) (hne : e' ∉ e :: X.tys) : OwnS X e w' lo hi A c L := by
  obtain ⟨xs, h1, h2⟩ := h
  rw [List.mem_cons, not_or] at hne
  exact ⟨xs, h1.y hg hne.1, fun i hi => X.ty (h2 i hi) hg hne.2⟩
theorem OwnS.q (h : OwnS X e w lo hi A c L) (hg : Grew w w' e' row) (ha : Ap row lo hi) (hne : e' ∉ X.tys) : OwnS X e w' lo hi A c L := by
  obtain ⟨xs, h1, h2⟩ := h
  exact ⟨xs, h1.k hg.g ha, fun i hi => X.ty (h2 i hi) hg hne⟩
theorem OwnS.m (h : OwnS X e w lo hi A c L) (hg : GrewM w w' b) : OwnS X e w' lo hi A c L := by
  obtain ⟨xs, h1, h2⟩ := h
  exact ⟨xs, h1.m hg, fun i hi => X.tm (h2 i hi) hg⟩
theorem OwnS.ap (h : OwnS X e w lo hi A c L) (hd : hi ≤ lo' ∨ hi' ≤ lo) : Ap (blk A) lo' hi' := by obtain ⟨xs, h1, _⟩ := h; exact h1.ap hd
theorem OwnS.cap (h : OwnS X e w lo hi A c L) : L.length ≤ c := by obtain ⟨xs, h1, _⟩ := h; exact h1.cap
theorem OwnS.nil_ : OwnS X e w lo hi none 0 [] := ⟨[], RowH.nil _ _ _ _ _, fun i h => absurd h (Nat.not_lt_zero _)⟩
theorem OwnS.base (h : OwnS X e w lo hi A c L) (h1 : lo' ≤ lo) (h2 : hi ≤ hi') : OwnS X e w lo' hi' A c L := by obtain ⟨xs, h3, h4⟩ := h; exact ⟨xs, h3.base h1 h2, h4⟩
theorem OwnS.to_RSlT (h : OwnS X e w lo hi A c L) : RSlT X e w A L := by obtain ⟨xs, h1, h2⟩ := h; exact ⟨xs, h1.rd, h1.ty, h2⟩
theorem OwnS.to_RSl (h : OwnS X e w lo hi A c L) : RSl X w A L := h.to_RSlT.to_RSl
theorem litS_part {vs : List Value} {L : List α} (hn : vs.length = L.length) (hX : ∀ i (h : i < L.length), ∃ v, vs[i]? = some v ∧ v.cells.size = X.sz ∧ X.T w v.cells.toList L[i]) :
    ∀ i (h : i < L.length), X.T w (part (vs.flatMap fun v => v.cells.toList) X.sz i) L[i] := fun i h => by
  have hall : ∀ v ∈ vs, v.cells.toList.length = X.sz := fun v hv => by
    obtain ⟨j, hj, rfl⟩ := List.getElem_of_mem hv
    obtain ⟨u, h1, h2, _⟩ := hX j (by omega)
    rw [List.getElem?_eq_getElem hj] at h1
    injection h1 with h1
    rw [h1, Array.length_toList]; exact h2
  rw [part_flatMap vs hall i (by omega)]
  obtain ⟨v, h1, _, h3⟩ := hX i h
  rw [List.getElem?_eq_getElem (by omega)] at h1
  injection h1 with h1
  rw [h1]; exact h3
end
section
variable {α : Type} {X : GoT α} {P : Program} {fn : Func} {F : Ending → World → Prop} {N : Nat} {ks : List K} {ops : Array Oper} {tg : Tags} {l : List Oper} {fr : Fr} {w : World} {ty t e : TypeId} {z : Value} {pos : String} {aft : Array Edge} {gd : Option (Nat × Bool)} {d n sz bytes c j q lo hi : Nat} {x y : Operand} {A B : Option Addr} {L M : List α}
theorem wl_litS {ps : Array (Nat × Operand)} {xs : List Operand} {vs : List Value} (T : RowT P t e z X.sz bytes) (hs : ∀ w, (sizeOf e).run P w = .ok X.sz w) (hz : ∀ w, (zeroValue e).run P w = .ok z w) (hxs : ps.toList.map Prod.snd = xs) (hps : ps = ((List.range' 0 n).zip xs).toArray) (hx : fr.evs xs = some vs) (hn : vs.length = n) (hL : L.length = n)
    (hX : ∀ i (h : i < L.length), ∃ v, vs[i]? = some v ∧ v.cells.size = X.sz ∧ X.T w v.cells.toList L[i]) (hm : Nat.ble (n * X.sz) 1000000 = true)
    (hk : ∀ A w', OwnS X e w' w.heap.size w'.heap.size A n L → Below w.heap.size w w' → WL P fn F N ks ops tg.tail l ((d, .slice A n n) :: fr) w')
    (ht : tg.loud = true := by rfl) (hg : onG ops fr gd = true := by rfl) (hd : Nat.blt d N = true := by rfl) : WL P fn F N ks ops tg (⟨some d, .buildSlice t n ps, ty, pos, aft, gd⟩ :: l) fr w := by
  refine wl_litR T hs hz hxs hps hx hn (fun v hv => ?_) hm (fun A w' h1 h2 => hk A w' ⟨_, ?_, fun i h => X.tu (litS_part (w := w) (by omega) hX i h) h2⟩ h2) ht hg hd
  · obtain ⟨j, hj, rfl⟩ := List.getElem_of_mem hv
    obtain ⟨u, h1, h2, _⟩ := hX j (by omega)
    rw [List.getElem?_eq_getElem hj] at h1
    injection h1 with h1
    rw [h1]; exact h2
  · rw [hL]; exact h1
theorem litR_part {vs : List Value} (hn : vs.length = L.length) (hX : ∀ i (h : i < L.length), ∃ v, vs[i]? = some v ∧ v.cells.size = X.sz ∧ X.R w v.cells.toList L[i]) :
    ∀ i (h : i < L.length), X.R w (part (vs.flatMap fun v => v.cells.toList) X.sz i) L[i] := fun i h => by
  have hall : ∀ v ∈ vs, v.cells.toList.length = X.sz := fun v hv => by
    obtain ⟨j, hj, rfl⟩ := List.getElem_of_mem hv
    obtain ⟨u, h1, h2, _⟩ := hX j (by omega)
    rw [List.getElem?_eq_getElem hj] at h1
    injection h1 with h1
    rw [h1, Array.length_toList]; exact h2
  rw [part_flatMap vs hall i (by omega)]
  obtain ⟨v, h1, _, h3⟩ := hX i h
  rw [List.getElem?_eq_getElem (by omega)] at h1
  injection h1 with h1
  rw [h1]; exact h3
/-- A literal of what is only read. -/
theorem wl_litRS {ps : Array (Nat × Operand)} {xs : List Operand} {vs : List Value} (T : RowT P t e z X.sz bytes) (hs : ∀ w, (sizeOf e).run P w = .ok X.sz w) (hz : ∀ w, (zeroValue e).run P w = .ok z w) (hxs : ps.toList.map Prod.snd = xs) (hps : ps = ((List.range' 0 n).zip xs).toArray) (hx : fr.evs xs = some vs) (hn : vs.length = n) (hL : L.length = n)
    (hX : ∀ i (h : i < L.length), ∃ v, vs[i]? = some v ∧ v.cells.size = X.sz ∧ X.R w v.cells.toList L[i]) (hm : Nat.ble (n * X.sz) 1000000 = true)
    (hk : ∀ A w', RSl X w' A L → Below w.heap.size w w' → WL P fn F N ks ops tg.tail l ((d, .slice A n n) :: fr) w')
    (ht : tg.loud = true := by rfl) (hg : onG ops fr gd = true := by rfl) (hd : Nat.blt d N = true := by rfl) : WL P fn F N ks ops tg (⟨some d, .buildSlice t n ps, ty, pos, aft, gd⟩ :: l) fr w := by
  refine wl_litR T hs hz hxs hps hx hn (fun v hv => ?_) hm (fun A w' h1 h2 => hk A w' ⟨_, ?_, fun i h => X.u (litR_part (w := w) (by omega) hX i h) h2⟩ h2) ht hg hd
  · obtain ⟨j, hj, rfl⟩ := List.getElem_of_mem hv
    obtain ⟨u, h1, h2, _⟩ := hX j (by omega)
    rw [List.getElem?_eq_getElem hj] at h1
    injection h1 with h1
    rw [h1]; exact h2
  · rw [hL]; exact h1.rd
theorem wl_appS (T : RowT P t e z X.sz bytes) (hx : fr.ev x = some (.slice A n c)) (hown : OwnS X e w lo hi A c L) (hn : n = L.length) (hy : fr.ev y = some (.slice B j q)) (hr : RSlT X e w B M) (hj : j = M.length) (hne : e ∉ X.tys) (h1 : ∀ w cs a, X.T w cs a → ∀ u ∈ cs, u.oneCell' = true) (hlen : (L.length + M.length) * bytes ≤ 140737488355328) (hmx : L.length + M.length ≤ 1000000000) (hB : lo ≤ w.heap.size)
    (h : ∀ A' c' w', OwnS X e w' lo w'.heap.size A' c' (L ++ M) → Grew w w' e (blk A) → Below lo w w' → (blk A' = blk A ∨ blk A' = some w.heap.size) → WL P fn F N ks ops tg.tail l ((d, .slice A' (L ++ M).length c') :: fr) w')
    (ht : tg.loud = true := by rfl) (hg : onG ops fr gd = true := by rfl) (hd : Nat.blt d N = true := by rfl) (hq : tg.calm = false ∨ blk A = none ∨ blk A = tg.row := by exact .inl rfl) :
    WL P fn F N ks ops tg (⟨some d, .call { callee := .builtin .append, args := #[x, y], argTypes := #[t, t] }, ty, pos, aft, gd⟩ :: l) fr w := by
  subst hn; subst hj
  obtain ⟨xs, g1, g2⟩ := hown
  obtain ⟨ms, r1, r2, r3⟩ := hr
  have hxl : xs.length = L.length * X.sz := g1.rd.1
  have hml : ms.length = M.length * X.sz := r1.1
  refine wl_appR T hx g1 hy r1 (fun u hu => ?_) (by simp only [maxLen]; omega) hlen hB (fun A' c' w' k1 k2 k3 k4 => ?_) ht hg hd hq
  · obtain ⟨i, hi, rfl⟩ := List.getElem_of_mem hu
    have h0 := T.h0
    have hq : i / X.sz < M.length := (Nat.div_lt_iff_lt_mul h0).2 (by omega)
    refine h1 _ _ _ (r3 _ hq) _ (List.mem_of_getElem? (i := i % X.sz) ?_)
    rw [part_get (Nat.mod_lt _ h0), Nat.div_add_mod' i X.sz]
    exact List.getElem?_eq_getElem hi
  · have e2 : (L ++ M).length = L.length + M.length := List.length_append
    rw [← e2] at k1 ⊢
    refine h A' c' w' ⟨_, k1, fun i hi => ?_⟩ k2 k3 k4
    rcases Nat.lt_or_ge i L.length with hl | hl
    · rw [part_append_lt hxl hl, List.getElem_append_left hl]
      exact X.ty (g2 i hl) k2 hne
    · rw [List.getElem_append_right hl]
      have hi2 : i - L.length < M.length := by rw [e2] at hi; omega
      have := X.ty (r3 _ hi2) k2 hne
      have e3 : part (xs ++ ms) X.sz i = part ms X.sz (i - L.length) := by
        unfold part
        rw [show i * X.sz = xs.length + (i - L.length) * X.sz by rw [hxl, ← Nat.add_mul]; congr 1; omega, ← List.drop_drop, List.drop_left]
      rw [e3]; exact this
end
end Go.Proofs.YtklijaahbahcoaaDoor
/-
  A change of nothing but what lies in the blocks from lo to hi. No function of the program is named here.
-/
namespace Go.Proofs.YtklijaahbahcoaaDoor
set_option maxRecDepth 100000
open Go.RowKit
/-- What was there is there still, but for the blocks from lo to hi. -/
structure Chg (lo hi : Nat) (w w' : World) : Prop where
  os : w'.os = w.os
  tape : w'.tape = w.tape
  output : w'.output = w.output
  size : w.heap.size ≤ w'.heap.size
  block : ∀ k, k < w.heap.size → (k < lo ∨ hi ≤ k) → w'.heap[k]? = w.heap[k]?
section
variable {w w' w'' : World} {lo hi lo' hi' B g sz n cp : Nat} {e : TypeId} {A : Option Addr} {xs : List Value} {l : List UInt8} {row : Option Nat}
theorem Chg.below (h : Chg lo hi w w') (hB : B ≤ w.heap.size) (hl : B ≤ lo) : Below B w w' := ⟨h.os, h.tape, h.output, h.size, fun k hk => h.block k (by omega) (.inl (by omega))⟩
theorem Chg.of_below (h : Below w.heap.size w w') : Chg lo hi w w' := ⟨h.os, h.tape, h.output, h.size, fun k hk _ => h.block k hk⟩
theorem Chg.of_lo (h : Below lo w w') (hh : w.heap.size ≤ hi) : Chg lo hi w w' := ⟨h.os, h.tape, h.output, h.size, fun k hk a => h.block k (by omega)⟩
theorem Chg.refl : Chg lo hi w w := Chg.of_below (Below.refl _ _)
theorem Chg.drew : Chg lo hi w w.drew := Chg.of_below (below_drew w)
theorem Chg.of_g (h : w.grownBy w' row) (hr : ∀ k, row = some k → lo ≤ k ∧ k < hi) : Chg lo hi w w' := ⟨h.os, h.tape, h.output, h.size, fun k hk a => h.block k hk (fun e => by have := hr k e.symm; omega)⟩
theorem Chg.of_g1 (h : w.grownBy w' (some g)) (h1 : lo ≤ g) (h2 : g < hi) : Chg lo hi w w' := Chg.of_g h (fun k e => by injection e with e; omega)
theorem Chg.trans (h : Chg lo hi w w') (k : Chg lo hi w' w'') : Chg lo hi w w'' :=
  ⟨k.os.trans h.os, k.tape.trans h.tape, k.output.trans h.output, Nat.le_trans h.size k.size, fun i hi ha => (k.block i (Nat.lt_of_lt_of_le hi h.size) ha).trans (h.block i hi ha)⟩
theorem Chg.thenB (h : Chg lo hi w w') (k : Below w'.heap.size w' w'') : Chg lo hi w w'' := h.trans (Chg.of_below k)
theorem Chg.andNew (h : Chg lo hi w w') (k : w'.grownBy w'' row) (hr : ∀ j, row = some j → w.heap.size ≤ j) : Chg lo hi w w'' :=
  ⟨k.os.trans h.os, k.tape.trans h.tape, k.output.trans h.output, Nat.le_trans h.size k.size, fun i hi ha => (k.block i (Nat.lt_of_lt_of_le hi h.size) (fun e => by have := hr i e.symm; omega)).trans (h.block i hi ha)⟩
theorem Chg.wide (h : Chg lo hi w w') (h1 : lo' ≤ lo) (h2 : hi ≤ hi') : Chg lo' hi' w w' := ⟨h.os, h.tape, h.output, h.size, fun k hk a => h.block k hk (by omega)⟩
theorem Chg.own (h : Chg lo hi w w') (hl : w.heap.size ≤ lo) : Below w.heap.size w w' := h.below (Nat.le_refl _) hl
theorem chg_of_ok (h : Rw.ok (none, some (.inr (lo, hi))) w w') : Chg lo hi w w' :=
  have h' : SameOut w w' none lo hi := h
  ⟨h'.os, h'.tape, h'.output, h'.size, fun k hk a => h'.block k hk (fun e => by cases e) a⟩
theorem ok_of_chg (h : Chg lo hi w w') : Rw.ok (row, some (.inr (lo, hi))) w w' :=
  show SameOut w w' row lo hi from ⟨h.os, h.tape, h.output, h.size, fun k hk _ a => h.block k hk a⟩
theorem Blk.c {t : TypeId} {cs : List Value} (h : Blk w g t cs) (hc : Chg lo hi w w') (ha : g < lo ∨ hi ≤ g) : Blk w' g t cs := (hc.block g h.lt ha).trans h
theorem TyAt.c (h : TyAt w g e) (hc : Chg lo hi w w') (ha : g < lo ∨ hi ≤ g) : TyAt w' g e := h.keep (hc.block g h.lt ha)
theorem RowH.c (h : RowH w lo hi e sz A n cp xs) (hc : Chg lo' hi' w w') (ha : hi ≤ lo' ∨ hi' ≤ lo) : RowH w' lo hi e sz A n cp xs :=
  ⟨⟨h.o.1, by
    rcases h.o.2 with h3 | ⟨g, cap, cur, h3, h4, h5, h6⟩
    · exact .inl h3
    · have hA : A = some ⟨g, 0, none⟩ := by injection h3
      have hg := h.hi g (by rw [hA]; rfl)
      have hl := h.lt g (by rw [hA]; rfl)
      exact .inr ⟨g, cap, cur, h3, h4, (hc.block g hl.2 (by omega)).trans h5, h6⟩⟩, h.hi⟩
theorem OwnH.c (h : OwnH w lo hi A n l) (hc : Chg lo' hi' w w') (ha : hi ≤ lo' ∨ hi' ≤ lo) : OwnH w' lo hi A n l := RowH.c h hc ha
theorem Rd.c (h : Rd w A l) (hc : Chg lo hi w w') (ha : ∀ k, blk A = some k → k < lo ∨ hi ≤ k) : Rd w' A l := by
  by_cases hl : l = []
  · subst hl; exact ⟨h.1, fun h => absurd rfl h⟩
  · obtain ⟨b, o, rfl, hcl⟩ := h.2 (fun e => hl (by cases l with | nil => rfl | cons x y => cases e))
    refine ⟨h.1, fun _ => ⟨b, o, rfl, fun j u hj => ?_⟩⟩
    have h1 := hcl j u hj
    have hlt : b < w.heap.size := block_lt_of_cell h1
    rw [← h1]
    show World.cell? w' _ = World.cell? w _
    unfold World.cell?
    rw [show w'.heap[b]? = w.heap[b]? from hc.block b hlt (ha b rfl)]
/-- Bytes that are read, in the blocks from lo to hi. -/
structure RdB (w : World) (lo hi : Nat) (A : Option Addr) (l : List UInt8) : Prop where
  r : Rd w A l
  b : ∀ k, blk A = some k → lo ≤ k ∧ k < hi
theorem RdB.u (h : RdB w lo hi A l) (hb : Below w.heap.size w w') : RdB w' lo hi A l := ⟨h.r.u hb, h.b⟩
theorem RdB.d (h : RdB w lo hi A l) : RdB w.drew lo hi A l := ⟨h.r.d, h.b⟩
theorem RdB.c (h : RdB w lo hi A l) (hc : Chg lo' hi' w w') (ha : hi ≤ lo' ∨ hi' ≤ lo) : RdB w' lo hi A l := ⟨Rd.c h.r hc (fun k e => by have := h.b k e; omega), h.b⟩
theorem RdB.k (h : RdB w lo hi A l) (hg : w.grownBy w' row) (ha : Ap row lo hi) : RdB w' lo hi A l := by
  refine ⟨h.r.grown hg ?_, h.b⟩
  cases hA : blk A with
  | none => exact .inl rfl
  | some k => exact .inr fun e => by have := h.b k hA; have := ha k e.symm; omega
theorem RdB.to_Rd (h : RdB w lo hi A l) : Rd w A l := h.r
theorem RdB.to_Reads (h : RdB w lo hi A l) : Reads w 1 A l.length (B8 l) := h.r
theorem RdB.base (h : RdB w lo hi A l) (h1 : lo' ≤ lo) (h2 : hi ≤ hi') : RdB w lo' hi' A l := ⟨h.r, fun k e => by have := h.b k e; omega⟩
theorem RdB.nil_ : RdB w lo hi none [] := ⟨Rd.nil w none, fun k e => by cases e⟩
theorem OwnH.rdB (h : OwnH w lo hi A n l) : RdB w lo hi A l := ⟨h.to_Rd, fun k hk => ⟨(RowH.lt h k hk).1, h.hi k hk⟩⟩
theorem Blk.rdB {t : TypeId} (h : Blk w g t (B8 l)) : RdB w g (g + 1) (some ⟨g, 0, none⟩) l :=
  ⟨⟨by rw [B8_length, Nat.mul_one], fun _ => ⟨g, 0, rfl, fun j u hj => by rw [h.cell, Nat.zero_add]; exact hj⟩⟩, fun k e => by simp [blk] at e; omega⟩
/-- Elements that look at no memory: kept with their row. -/
theorem OwnS.c0 {α : Type} {X : GoT α} {L : List α} (h : OwnS X e w lo hi A cp L) (hX : ∀ {cs a}, X.T w cs a → X.T w' cs a) (hc : Chg lo' hi' w w') (ha : hi ≤ lo' ∨ hi' ≤ lo) : OwnS X e w' lo hi A cp L := by
  obtain ⟨xs, h1, h2⟩ := h
  exact ⟨xs, h1.c hc ha, fun i hi => hX (h2 i hi)⟩
end
end Go.Proofs.YtklijaahbahcoaaDoor
/-
  Strings: byte slices as strings, and the order of strings. No function of the program is named here.
-/
namespace Go.Proofs.YtklijaahbahcoaaDoor
set_option maxRecDepth 100000
open Go.RowKit
/-- The order of byte strings. -/
def cmpL : List UInt8 → List UInt8 → Int
  | [], [] => 0
  | [], _ :: _ => -1
  | _ :: _, [] => 1
  | x :: a, y :: b => if x = y then cmpL a b else if x.toNat < y.toNat then -1 else 1
theorem cmpL_self : ∀ a : List UInt8, cmpL a a = 0
  | [] => rfl
  | x :: a => by simp [cmpL, cmpL_self a]
theorem cmpL_neg : ∀ a b : List UInt8, cmpL a b = -cmpL b a
  | [], [] => rfl
  | [], _ :: _ => rfl
  | _ :: _, [] => rfl
  | x :: a, y :: b => by
    by_cases h : x = y
    · subst h; simp only [cmpL, if_true]; exact cmpL_neg a b
    · have h2 : y ≠ x := fun e => h e.symm
      have h3 : x.toNat ≠ y.toNat := fun e => h (UInt8.toNat_inj.1 e)
      simp only [cmpL, if_neg h, if_neg h2]
      rcases Nat.lt_or_gt_of_ne h3 with h4 | h4
      · rw [if_pos h4, if_neg (by omega)]
      · rw [if_neg (by omega), if_pos h4]; rfl
theorem cmpL_zero : ∀ a b : List UInt8, cmpL a b = 0 ↔ a = b
  | [], [] => by simp [cmpL]
  | [], _ :: _ => by simp [cmpL]
  | _ :: _, [] => by simp [cmpL]
  | x :: a, y :: b => by
    by_cases h : x = y
    · subst h; simp only [cmpL, if_true, cmpL_zero a b, List.cons.injEq, true_and]
    · simp only [cmpL, if_neg h, List.cons.injEq, h, false_and, iff_false]
      by_cases h4 : x.toNat < y.toNat <;> simp [h4]
theorem cmpL_one : ∀ a b : List UInt8, cmpL a b = -1 ∨ cmpL a b = 0 ∨ cmpL a b = 1
  | [], [] => by simp [cmpL]
  | [], _ :: _ => by simp [cmpL]
  | _ :: _, [] => by simp [cmpL]
  | x :: a, y :: b => by
    by_cases h : x = y
    · subst h; simp only [cmpL, if_true]; exact cmpL_one a b
    · simp only [cmpL, if_neg h]; split <;> simp
theorem cmpL_trans : ∀ a b c : List UInt8, cmpL a b < 0 → cmpL b c < 0 → cmpL a c < 0
  | [], _, [], h1, h2 => by
    rename_i b
    cases b with
    | nil => simp [cmpL] at h1
    | cons y b => simp [cmpL] at h2
  | [], _, _ :: _, _, _ => by simp [cmpL]
  | _ :: _, [], _, h1, _ => by simp [cmpL] at h1
  | _ :: _, _ :: _, [], _, h2 => by simp [cmpL] at h2
  | x :: a, y :: b, z :: c, h1, h2 => by
    simp only [cmpL] at h1 h2 ⊢
    by_cases h : x = y
    · subst h
      rw [if_pos rfl] at h1
      by_cases h' : x = z
      · subst h'; rw [if_pos rfl] at h2 ⊢; exact cmpL_trans a b c h1 h2
      · rw [if_neg h'] at h2 ⊢; exact h2
    · rw [if_neg h] at h1
      have h3 : x.toNat < y.toNat := by
        by_cases h3 : x.toNat < y.toNat
        · exact h3
        · rw [if_neg h3] at h1; exact absurd h1 (by decide)
      by_cases h' : y = z
      · subst h'; rw [if_neg h, if_pos h3]; decide
      · rw [if_neg h'] at h2
        have h4 : y.toNat < z.toNat := by
          by_cases h4 : y.toNat < z.toNat
          · exact h4
          · rw [if_neg h4] at h2; exact absurd h2 (by decide)
        have h5 : x ≠ z := fun e => by rw [e] at h3; omega
        rw [if_neg h5, if_pos (by omega)]; decide
theorem bytesLess_iff : ∀ a b : List UInt8, (Op.bytesLess a b = true) = (cmpL a b < 0)
  | [], [] => by simp [cmpL, Op.bytesLess]
  | [], _ :: _ => by simp [cmpL, Op.bytesLess]
  | _ :: _, [] => by simp [cmpL, Op.bytesLess]
  | x :: a, y :: b => by
    have ih := bytesLess_iff a b
    simp only [cmpL, Op.bytesLess, Bool.or_eq_true, Bool.and_eq_true, beq_iff_eq, decide_eq_true_eq, ih]
    by_cases h : x = y
    · subst h; simp [UInt8.lt_irrefl]
    · simp only [h, false_and, or_false, if_false]
      rw [UInt8.lt_iff_toNat_lt]
      by_cases h3 : x.toNat < y.toNat <;> simp [h3]
theorem bytesLess_eq (a b : List UInt8) : Op.bytesLess a b = decide (cmpL a b < 0) := by
  rw [Bool.eq_iff_iff, bytesLess_iff]; simp
section
variable {P : Program} {fn : Func} {F : Ending → World → Prop} {N : Nat} {ks : List K} {ops : Array Oper} {tg : Tags} {l : List Oper} {fr : Fr} {w w0 : World} {ty t t' xt : TypeId} {pos : String} {aft : Array Edge} {gd : Option (Nat × Bool)} {d : Nat} {x y : Operand} {s u : List UInt8}
--@ rule convert r o_strU
theorem o_strU {A : Option Addr} {n c : Nat} {src e dst : TypeId} {l : List UInt8} (hs : P.underlying src = some (.slice e)) (he : P.underlying e = some (.int .u8)) (hd : P.underlying dst = some .string) (hx : fr.ev x = some (.slice A n c)) (hr : Rd w0 A l) (hb : Below w0.heap.size w0 w) (hn : n = l.length) :
    OpV P N fr w (.convert src dst x) ty (.string ⟨l.toArray⟩) w := o_str hs he hd hx hn (hr.below hb)
theorem o_neg64 {n : Int} (hx : fr.ev x = some (.int .i64 n)) (h1 : -9223372036854775807 ≤ n) (h2 : n ≤ 9223372036854775807) : OpV P N fr w (.unOp .neg t x) ty (.int .i64 (-n)) w := fun a ha o ho _ => by
  have e : IntKind.i64.wrap (-n) = -n := i64_in (by omega) (by omega)
  simp [execOp, ho, ha.ev hx, Op.unary, Op.intArith, e]
theorem o_slss (hx : fr.ev x = some (.string ⟨s.toArray⟩)) (hy : fr.ev y = some (.string ⟨u.toArray⟩)) : OpV P N fr w (.binOp .lss t x y t') ty (.bool (decide (cmpL s u < 0))) w :=
  o_bin hx hy (fun _ _ => by simp [go_sem]) (by rw [← bytesLess_eq]; simp [go_sem])
theorem o_sleq (hx : fr.ev x = some (.string ⟨s.toArray⟩)) (hy : fr.ev y = some (.string ⟨u.toArray⟩)) : OpV P N fr w (.binOp .leq t x y t') ty (.bool (decide (cmpL s u ≤ 0))) w :=
  o_bin hx hy (fun _ _ => by simp [go_sem]) (by
    have : (binOp .leq t (.string ⟨s.toArray⟩) (.string ⟨u.toArray⟩)).run P w = .ok (.bool (Op.bytesLess s u || s == u)) w := by simp [go_sem]
    rw [this]; congr 2; rw [Bool.eq_iff_iff]
    simp only [Bool.or_eq_true, bytesLess_iff, beq_iff_eq, decide_eq_true_eq, ← cmpL_zero]; omega)
theorem o_sgtr (hx : fr.ev x = some (.string ⟨s.toArray⟩)) (hy : fr.ev y = some (.string ⟨u.toArray⟩)) : OpV P N fr w (.binOp .gtr t x y t') ty (.bool (decide (0 < cmpL s u))) w :=
  o_bin hx hy (fun _ _ => by simp [go_sem]) (by
    have : (binOp .gtr t (.string ⟨s.toArray⟩) (.string ⟨u.toArray⟩)).run P w = .ok (.bool (!(Op.bytesLess s u || s == u))) w := by simp [go_sem]
    rw [this]; congr 2; rw [Bool.eq_iff_iff]
    rw [Bool.not_eq_true', ← Bool.not_eq_true, Bool.or_eq_true]
    simp only [bytesLess_iff, beq_iff_eq, decide_eq_true_eq, ← cmpL_zero]; omega)
theorem o_sgeq (hx : fr.ev x = some (.string ⟨s.toArray⟩)) (hy : fr.ev y = some (.string ⟨u.toArray⟩)) : OpV P N fr w (.binOp .geq t x y t') ty (.bool (decide (0 ≤ cmpL s u))) w :=
  o_bin hx hy (fun _ _ => by simp [go_sem]) (by
    have : (binOp .geq t (.string ⟨s.toArray⟩) (.string ⟨u.toArray⟩)).run P w = .ok (.bool (!(Op.bytesLess s u))) w := by simp [go_sem]
    rw [this]; congr 2; rw [Bool.eq_iff_iff]
    rw [Bool.not_eq_true', ← Bool.not_eq_true]
    simp only [bytesLess_iff, decide_eq_true_eq]; omega)
end
theorem Tryd.rowB : RowT Tryd.prog 22 5 (.int .u8 0) 1 1 := ⟨Tryd.underlying22, by kernel_rfl, rfl, by omega⟩
theorem u8w {n : Nat} (h : n < 256) : IntKind.u8.wrap (n : Int) = ((UInt8.ofNat n).toNat : Int) := by
  rw [UInt8.toNat_ofNat_of_lt' (by simpa using h)]
  exact u8_in (by omega) (by omega)
section
variable {fn : Func} {F : Ending → World → Prop} {N : Nat} {ks : List K} {ops : Array Oper} {tg : Tags} {l : List Oper} {fr : Fr} {w : World} {ty : TypeId} {pos : String} {aft : Array Edge} {gd : Option (Nat × Bool)} {d : Nat} {x y : Operand}
--@ rule append l wl_appB0
theorem wl_appB0 {X : Option Addr} {j q : Nat} {m : List UInt8} (hx : fr.ev x = some (.slice none 0 0)) (hy : fr.ev y = some (.slice X j q)) (hr : Rd w X m) (hj : j = m.length) (hlen : m.length ≤ 4000000000)
    (h : ∀ A' c' w', OwnH w' w.heap.size w'.heap.size A' c' m → Below w.heap.size w w' → WL Tryd.prog fn F N ks ops tg.tail l ((d, .slice A' m.length c') :: fr) w')
    (ht : tg.loud = true := by rfl) (hg : onG ops fr gd = true := by rfl) (hd : Nat.blt d N = true := by rfl) :
    WL Tryd.prog fn F N ks ops tg (⟨some d, .call { callee := .builtin .append, args := #[x, y], argTypes := #[22, 22] }, ty, pos, aft, gd⟩ :: l) fr w := by
  subst hj
  exact wl_appR0 (hi := 0) Tryd.rowB hx (RowH.nil _ _ _ _ _) hy hr (B8_oneCell m) (by simp only [maxLen]; omega) (by omega) (Nat.le_refl _) h ht hg hd
end
end Go.Proofs.YtklijaahbahcoaaDoor
