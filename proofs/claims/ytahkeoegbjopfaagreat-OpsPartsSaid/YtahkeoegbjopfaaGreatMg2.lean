/-
  Blocks that are known whole: rules that read and write them. No function of the program is named here.
-/
import Derived.Test.YtahkeoegbjopfaaGreatMg1
import Derived.Stop.BytesEq
import Derived.ProofKit
import Derived.OpenShut
import Derived.ChangeSame
import Derived.SizedLaws
import Derived.Shelf.Small.Bits
import Derived.Shelf.Strconv.Itoa0
import Derived.Shelf.SlGeneric
import Derived.Ground.NamesProg
import Derived.Test.YtahkeoegbjopfaaGreatProg
import Derived.Lib.BitFns
import Derived.Laws.BitsAllLaws
namespace Go.Proofs.YtahkeoegbjopfaaGreat
set_option maxRecDepth 100000
open Go.RowKit

/-- Block g is just the cells cs of element type t, none of them frozen. -/
def Blk (w : World) (g : Nat) (t : TypeId) (cs : List Value) : Prop := w.heap[g]? = some (.cells cs.toArray t (0, 0))
/-- The cells L with vs laid over them from k on. -/
def spl (L : List Value) (k : Nat) (vs : List Value) : List Value := L.take k ++ vs ++ L.drop (k + vs.length)
theorem spl_length {L vs : List Value} {k : Nat} (h : k + vs.length ≤ L.length) : (spl L k vs).length = L.length := by simp [spl]; omega
theorem spl_all {L vs : List Value} (h : vs.length = L.length) : spl L 0 vs = vs := by simp [spl, h]
theorem spl_one {L : List Value} {k : Nat} {v : Value} (h : k < L.length) : spl L k [v] = L.set k v := by
  rw [spl, List.set_eq_take_append_cons_drop, if_pos h]; simp

section
variable {P : Program} {w w' : World} {g : Nat} {t : TypeId} {cs : List Value}
theorem Blk.lt (h : Blk w g t cs) : g < w.heap.size := by
  rcases Nat.lt_or_ge g w.heap.size with hlt | hge
  · exact hlt
  · unfold Blk at h; rw [Array.getElem?_eq_none hge] at h; cases h
theorem Blk.cell (h : Blk w g t cs) (i : Nat) : w.cell? ⟨g, i, none⟩ = cs[i]? := by
  rw [cell_of_row w g i cs.toArray t (0, 0) h]; simp
theorem Blk.frozen (h : Blk w g t cs) (i : Nat) : w.frozen? ⟨g, i, none⟩ = false := by
  unfold Blk at h
  simp [World.frozen?, h]
theorem Blk.new (w : World) (t : TypeId) (cs : Array Value) : Blk (w.alloc (.cells cs t)) w.heap.size t cs.toList := by
  unfold Blk; rw [Array.toArray_toList]; exact heap_alloc_new w _
theorem Blk.drew (h : Blk w g t cs) : Blk w.drew g t cs := h
theorem Blk.alloc (h : Blk w g t cs) (o : Obj) : Blk (w.alloc o) g t cs := (Below.heap_alloc w o g h.lt).trans h
theorem Blk.below {B : Nat} (h : Blk w g t cs) (hb : Below B w w') (hg : g < B) : Blk w' g t cs := (hb.block g hg).trans h
theorem Blk.under (h : Blk w g t cs) (hb : Below w.heap.size w w') : Blk w' g t cs := h.below hb h.lt
theorem Blk.grown {row : Option Nat} (h : Blk w g t cs) (hb : w.grownBy w' row) (hg : some g ≠ row) : Blk w' g t cs := (hb.block g h.lt hg).trans h
theorem Blk.ne_ {g' : Nat} {t' : TypeId} {cs' : List Value} (h : Blk w g t cs) (h' : Blk w g' t' cs') (hne : t ≠ t') : g ≠ g' := by
  rintro rfl
  unfold Blk at h h'
  rw [h] at h'
  injection h' with h'
  injection h' with _ ht
  exact hne ht
theorem Blk.set_ (h : Blk w g t cs) (i : Nat) (u : Value) : Blk (w.setCell ⟨g, i, none⟩ u) g t (cs.set i u) := by
  unfold Blk at h ⊢
  simp [World.setCell, Array.getElem?_modify, h]
theorem grownBy_setCell (w : World) (g i : Nat) (u : Value) : w.grownBy (w.setCell ⟨g, i, none⟩ u) (some g) :=
  ⟨rfl, rfl, rfl, by simp [World.setCell], fun k _ hne => Below.heap_setCell w _ u k (fun e => hne (by rw [e]))⟩
theorem grownBy_trans {a b c : World} {row : Option Nat} (h : a.grownBy b row) (k : b.grownBy c row) : a.grownBy c row :=
  ⟨k.os.trans h.os, k.tape.trans h.tape, k.output.trans h.output, Nat.le_trans h.size k.size, fun i hi hne => (k.block i (Nat.lt_of_lt_of_le hi h.size) hne).trans (h.block i hi hne)⟩
theorem grownBy_of_below {a b : World} (h : Below a.heap.size a b) (row : Option Nat) : a.grownBy b row := ⟨h.os, h.tape, h.output, h.size, fun k hk _ => h.block k hk⟩
theorem grownBy_drew (w : World) (row : Option Nat) : w.grownBy w.drew row := ⟨rfl, rfl, rfl, Nat.le_refl _, fun _ _ _ => rfl⟩
theorem below_of_grownBy {B : Nat} {a b : World} {g : Nat} (h : a.grownBy b (some g)) (hB : B ≤ a.heap.size) (hg : B ≤ g) : Below B a b :=
  ⟨h.os, h.tape, h.output, h.size, fun k hk => h.block k (by omega) (fun e => by injection e with e; omega)⟩
theorem grownBy_new {a b c : World} {row : Option Nat} {j : Nat} (h : a.grownBy b row) (k : b.grownBy c (some j)) (hj : a.heap.size ≤ j) : a.grownBy c row :=
  ⟨k.os.trans h.os, k.tape.trans h.tape, k.output.trans h.output, Nat.le_trans h.size k.size, fun i hi hne => (k.block i (Nat.lt_of_lt_of_le hi h.size) (fun e => by injection e with e; omega)).trans (h.block i hi hne)⟩
/-- Bytes of the call's own do not lie in a block of another element type. -/
theorem Own.ne {B c : Nat} {A : Option Addr} {l : List UInt8} (h : Own w B A c l) (hB : Blk w g t cs) (ht : t ≠ 5) : blk A ≠ some g := by
  rcases h.2 with ⟨hv, _⟩ | ⟨g', cap, cur, hv, _, hh, _⟩
  · injection hv with hv; subst hv; simp [blk]
  · injection hv with hv; subst hv
    intro he
    have : g' = g := by simpa [blk] using he
    subst this
    unfold Blk at hB
    rw [hB] at hh
    injection hh with hh
    injection hh with _ hh
    exact ht hh
theorem Reads.grown {size n : Nat} {A : Option Addr} {xs : List Value} {row : Option Nat} (h : Reads w size A n xs) (hg : w.grownBy w' row) (hne : blk A = none ∨ blk A ≠ row) : Reads w' size A n xs :=
  ⟨h.1, fun hn => by
    obtain ⟨b, o, e, hc⟩ := h.2 hn
    refine ⟨b, o, e, fun j u hu => (World.cell?_of_block (hg.block b (block_lt_of_cell (hc j u hu)) (fun e2 => ?_))).trans (hc j u hu)⟩
    subst e
    rcases hne with h1 | h1
    · cases h1
    · exact h1 e2⟩
theorem Rd.grown {A : Option Addr} {l : List UInt8} {row : Option Nat} (h : Rd w A l) (hg : w.grownBy w' row) (hne : blk A = none ∨ blk A ≠ row) : Rd w' A l := Reads.grown h hg hne

theorem run_store_blk {j : Nat} {v : Value} (h : Blk w g t cs) (hj : j < cs.length) (h1 : v.oneCell' = true) : (store ⟨g, j, none⟩ v).run P w = .ok () (w.setCell ⟨g, j, none⟩ v) := by
  have hc := h.cell j
  rw [List.getElem?_eq_getElem hj] at hc
  have := run_store P w ⟨g, j, none⟩ v .plain h1
  rw [this]
  simp [hc, h.frozen j]

theorem run_storeCells_blk {o : Nat} : ∀ (vs : List Value) (i : Nat) (L : List Value) (w : World), Blk w g t L → (∀ v ∈ vs, v.oneCell' = true) → o + i + vs.length ≤ L.length →
    ∃ w', (storeCells ⟨g, o, none⟩ vs i).run P w = .ok () w' ∧ Blk w' g t (spl L (o + i) vs) ∧ w.grownBy w' (some g) ∧ w'.heap.size = w.heap.size
  | [], i, L, w, h, _, _ => ⟨w, by simp [storeCells], by simpa [spl] using h, World.grownBy.refl w _, rfl⟩
  | v :: vs, i, L, w, h, h1, hl => by
    simp only [List.length_cons] at hl
    have hs := run_store_blk (P := P) (j := o + i) h (by omega) (h1 v (by simp))
    obtain ⟨w', hr, hB, hg, hz⟩ := run_storeCells_blk (o := o) vs (i + 1) (L.set (o + i) v) (w.setCell ⟨g, o + i, none⟩ v) (h.set_ (o + i) v) (fun u hu => h1 u (by simp [hu])) (by simp; omega)
    refine ⟨w', ?_, ?_, grownBy_trans (grownBy_setCell w g (o + i) v) hg, by rw [hz]; simp [World.setCell]⟩
    · simp only [storeCells, add_plain, Sem.run_bind, hs, Result.andThen_ok]
      exact hr
    · have e : spl (L.set (o + i) v) (o + (i + 1)) vs = spl L (o + i) (v :: vs) := by
        have hlt : o + i < L.length := by omega
        simp only [spl, List.length_cons]
        rw [show o + (i + 1) = (o + i) + 1 from by omega, List.take_succ_eq_append_getElem (by simpa using hlt), List.take_set_of_le (Nat.le_refl _), List.drop_set_of_lt (by omega)]
        simp [Nat.add_comm, Nat.add_left_comm, Nat.add_assoc]
      rw [← e]
      exact hB
end

section
variable {P : Program} {fn : Func} {F : Ending → World → Prop} {N : Nat} {ks : List K} {ops : Array Oper} {tg : Tags} {l : List Oper} {fr : Fr} {w : World} {ty t t' : TypeId} {pos : String} {aft : Array Edge} {gd : Option (Nat × Bool)} {d g i j n o len cap : Nat} {x y : Operand} {cs : List Value} {v : Value}

theorem o_loadb (ha' : ∀ w, (isAgg t).run P w = .ok false w) (hx : fr.ev x = some (.pointer (some ⟨g, i, none⟩))) (hB : Blk w g t' cs) (hi : cs[i]? = some v) : OpV P N fr w (.load t x) ty v w :=
  o_load ha' hx (by rw [hB.cell]; exact hi)
/-- A whole array or struct, read out of its block. -/
theorem o_load_all (ha' : ∀ w, (isAgg t).run P w = .ok true w) (hs : ∀ w, (sizeOf t).run P w = .ok n w) (hx : fr.ev x = some (.pointer (some ⟨g, 0, none⟩))) (hB : Blk w g t' cs) (hn : cs.length = n) : OpV P N fr w (.load t x) ty (.agg cs.toArray) w :=
  o_loadn ha' (by rw [hn]; exact hs) hx (fun j u hu => by rw [add_plain, hB.cell, Nat.zero_add]; exact hu)

/-- One cell of a block is written. -/
theorem wl_store1 (hs : ∀ w, (sizeOf t).run P w = .ok 1 w) (hx : fr.ev x = some (.pointer (some ⟨g, i, none⟩))) (hy : fr.ev y = some v) (h1 : v.oneCell' = true) (hB : Blk w g t' cs) (hi : i < cs.length)
    (hk : ∀ w', Blk w' g t' (cs.set i v) → w.grownBy w' (some g) → w'.heap.size = w.heap.size → WL P fn F N ks ops tg.tail l fr w') (ht : tg.loud = true := by rfl) (hg : onG ops fr gd = true := by rfl) (hq : tg.calm = false ∨ tg.rw.may (some g) := by exact .inl rfl) :
    WL P fn F N ks ops tg (⟨none, .store t x y, ty, pos, aft, gd⟩ :: l) fr w := by
  have hc := hB.cell i
  rw [List.getElem?_eq_getElem hi] at hc
  exact wl_u (o_store hs hx hy h1 hc (hB.frozen i)) (hk _ (hB.set_ i v) (grownBy_setCell w g i v) (by simp [World.setCell])) ht hg (hq.imp id (Rw.of_may (grownBy_setCell w g i v)))
/-- An array or a struct is written into a block. -/
theorem wl_storen {vs : List Value} (hs : ∀ w, (sizeOf t).run P w = .ok n w) (hx : fr.ev x = some (.pointer (some ⟨g, o, none⟩))) (hy : fr.ev y = some (.agg vs.toArray)) (hn : vs.length = n) (h1 : ∀ v ∈ vs, v.oneCell' = true) (hB : Blk w g t' cs) (hi : o + n ≤ cs.length)
    (hk : ∀ w', Blk w' g t' (spl cs o vs) → w.grownBy w' (some g) → w'.heap.size = w.heap.size → WL P fn F N ks ops tg.tail l fr w') (ht : tg.loud = true := by rfl) (hg : onG ops fr gd = true := by rfl) (hq : tg.calm = false ∨ tg.rw.may (some g) := by exact .inl rfl) :
    WL P fn F N ks ops tg (⟨none, .store t x y, ty, pos, aft, gd⟩ :: l) fr w := by
  obtain ⟨w', hr, hB', hg', hz⟩ := run_storeCells_blk (P := P) (o := o) vs 0 cs w hB h1 (by omega)
  refine wl_u (w' := w') (fun a ha op hop => ?_) (hk w' hB' hg' hz) ht hg (hq.imp id (Rw.of_may hg'))
  have hcs : (Value.agg vs.toArray).cells = vs.toArray := rfl
  simp [execOp, hop, ha.ev hx, ha.ev hy, Instr.storeAt, Instr.sureAddr, storeVar, hcs, hs, hn, hr]
/-- The whole of a block is written. -/
theorem wl_store_all {vs : List Value} (hs : ∀ w, (sizeOf t).run P w = .ok n w) (hx : fr.ev x = some (.pointer (some ⟨g, 0, none⟩))) (hy : fr.ev y = some (.agg vs.toArray)) (hn : vs.length = n) (h1 : ∀ v ∈ vs, v.oneCell' = true) (hB : Blk w g t' cs) (hi : cs.length = n)
    (hk : ∀ w', Blk w' g t' vs → w.grownBy w' (some g) → w'.heap.size = w.heap.size → WL P fn F N ks ops tg.tail l fr w') (ht : tg.loud = true := by rfl) (hg : onG ops fr gd = true := by rfl) (hq : tg.calm = false ∨ tg.rw.may (some g) := by exact .inl rfl) :
    WL P fn F N ks ops tg (⟨none, .store t x y, ty, pos, aft, gd⟩ :: l) fr w :=
  wl_storen hs hx hy hn h1 hB (by omega) (fun w' h2 h3 h4 => hk w' (by rw [spl_all (by omega)] at h2; exact h2) h3 h4) ht hg hq

/-- A new variable. -/
theorem o_alloc {e : TypeId} {z : Value} (hz : ∀ w, (zeroValue e).run P w = .ok z w) : OpV P N fr w (.alloc e) ty (.pointer (some ⟨w.heap.size, 0, none⟩)) (w.alloc (.cells z.cells e)) := fun a _ o ho _ => by
  simp [execOp, ho, Instr.alloc, newVar, newRow, newObj, Sem.run, hz]

theorem below_alloc (w : World) (o : Obj) : Below w.heap.size w (w.alloc o) := (Below.refl _ _).alloc (Nat.le_refl _) o
theorem wl_alloc {e : TypeId} {z : Value} (zs : List Value) (hz : ∀ w, (zeroValue e).run P w = .ok z w) (hzs : z.cells = zs.toArray)
    (hk : ∀ w', Blk w' w.heap.size e zs → Below w.heap.size w w' → w'.heap.size = w.heap.size + 1 → WL P fn F N ks ops tg.tail l ((d, .pointer (some ⟨w.heap.size, 0, none⟩)) :: fr) w')
    (ht : tg.loud = true := by rfl) (hg : onG ops fr gd = true := by rfl) (hd : Nat.blt d N = true := by rfl) : WL P fn F N ks ops tg (⟨some d, .alloc e, ty, pos, aft, gd⟩ :: l) fr w :=
  wl_v (o_alloc hz) (hk _ (by rw [hzs]; exact Blk.new w e zs.toArray) (below_alloc w _) (by simp)) ht hg hd (.inr (grown_of_below (below_alloc w _) _))
theorem wl_box {e : TypeId} (vs : List Value) (hx : fr.ev x = some v) (hvs : v.cells = vs.toArray)
    (hk : ∀ w', Blk w' w.heap.size e vs → Below w.heap.size w w' → w'.heap.size = w.heap.size + 1 → WL P fn F N ks ops tg.tail l ((d, .pointer (some ⟨w.heap.size, 0, none⟩)) :: fr) w')
    (ht : tg.loud = true := by rfl) (hg : onG ops fr gd = true := by rfl) (hd : Nat.blt d N = true := by rfl) : WL P fn F N ks ops tg (⟨some d, .box e x, ty, pos, aft, gd⟩ :: l) fr w :=
  wl_v (o_box hx) (hk _ (by rw [hvs]; exact Blk.new w e vs.toArray) (below_alloc w _) (by simp)) ht hg hd (.inr (grown_of_below (below_alloc w _) _))
/-! A slice literal whose elements are one cell each, in order. -/
theorem fill_range {place : Nat → Option (Nat × Nat)} (hp : ∀ i, place i = some (i * 1, 1)) : ∀ (vs : List Value) (k : Nat) (cells : List Value), (∀ v ∈ vs, v.oneCell' = true) → k + vs.length = cells.length →
    Instr.fill place cells.toArray ((List.range' k vs.length).zip vs) = some (cells.take k ++ vs).toArray
  | [], k, cells, _, hl => by
    simp only [List.length_nil, Nat.add_zero] at hl
    simp [Instr.fill, hl]
  | v :: vs, k, cells, h1, hl => by
    simp only [List.length_cons] at hl
    have hv : v.cells = #[v] := by
      have := h1 v (by simp)
      cases v <;> first | rfl | cases this
    have ih := fill_range hp vs (k + 1) (cells.set k v) (fun u hu => h1 u (by simp [hu])) (by simp; omega)
    simp only [List.length_cons, List.range'_succ, List.zip_cons_cons, Instr.fill, hp, hv]
    rw [if_neg (by simp; omega)]
    have e : (#[v].zipIdx.foldl (fun (cs : Array Value) (x : Value × Nat) => cs.setIfInBounds (k * 1 + x.2) x.1) cells.toArray) = (cells.set k v).toArray := by simp
    have e2 : (#[v].zipIdx.foldl (fun cs (x : Value × Nat) => match x with | (c, j) => cs.setIfInBounds (k * 1 + j) c) cells.toArray) = (cells.set k v).toArray := by simp
    rw [show List.take k cells ++ v :: vs = List.take (k + 1) (cells.set k v) ++ vs from ?_]
    · first | (rw [e2]; exact ih) | (rw [e]; exact ih) | (simpa using ih)
    · rw [List.take_succ_eq_append_getElem (by simp; omega), List.take_set_of_le (Nat.le_refl _)]; simp
theorem run_lit {e : TypeId} {z : Value} (hu : P.underlying t = some (.slice e)) (hs : ∀ w, (sizeOf e).run P w = .ok 1 w) (hz : ∀ w, (zeroValue e).run P w = .ok z w) (h0 : z.cells.size = 1) (vs : List Value) (h1 : ∀ v ∈ vs, v.oneCell' = true) (hn : vs.length ≤ 16777216) :
    (Instr.buildSlice t vs.length ((List.range' 0 vs.length).zip vs).toArray).run P w = .ok (.slice (some ⟨w.heap.size, 0, none⟩) vs.length vs.length) (w.alloc (.cells vs.toArray e)) := by
  have hf : ∀ (cells : Array Value), cells.size = vs.length → Instr.fill (fun i => some (i * 1, 1)) cells ((List.range' 0 vs.length).zip vs) = some vs.toArray := fun cells hc => by
    have := fill_range (place := fun i => some (i * 1, 1)) (fun _ => rfl) vs 0 cells.toList h1 (by simp [hc])
    simpa using this
  have hn' : ¬ (16777216 < vs.length) := by omega
  by_cases hv : vs.length = 0
  · have hv' : vs = [] := List.eq_nil_of_length_eq_zero hv
    subst hv'
    simp [Instr.buildSlice, run_underlying hu, hs, Instr.fill, newRow, newObj, Sem.run, show Array.range 0 = #[] from rfl]
  · simp [Instr.buildSlice, run_underlying hu, hs, hz, hn', hv, newRow, newObj, Sem.run]
    have h2 := hf (Array.map (fun x => z.cells[x % z.cells.size]!) (Array.range vs.length)) (by simp)
    simp only [Nat.mul_one] at h2
    simp [h2, newRow, newObj, Sem.run]
/-- A slice literal of bytes. -/
theorem wl_lit8 {xs : List Operand} (bs : List UInt8) (T : U8 P t) (hs : ∀ w, (sizeOf 5).run P w = .ok 1 w) (hz : ∀ w, (zeroValue 5).run P w = .ok (.int .u8 0) w) (hx : fr.evs xs = some (B8 bs)) (hm : Nat.ble bs.length 1000000 = true)
    (hk : ∀ w', Own w' w.heap.size (some ⟨w.heap.size, 0, none⟩) bs.length bs → Below w.heap.size w w' → w'.heap.size = w.heap.size + 1 → WL P fn F N ks ops tg.tail l ((d, .slice (some ⟨w.heap.size, 0, none⟩) bs.length bs.length) :: fr) w')
    (ht : tg.loud = true := by rfl) (hg : onG ops fr gd = true := by rfl) (hd : Nat.blt d N = true := by rfl) : WL P fn F N ks ops tg (⟨some d, .buildSlice t bs.length ((List.range' 0 bs.length).zip xs).toArray, ty, pos, aft, gd⟩ :: l) fr w := by
  have hm' : bs.length ≤ 1000000 := by simpa using hm
  have hr := run_lit (P := P) (w := w) T.ht hs hz rfl (B8 bs) (B8_oneCell _) (by rw [B8_length]; omega)
  rw [B8_length] at hr
  exact wl_v (o_lit hx hr) (hk _ (own_lit w (Nat.le_refl _) bs _ rfl (by simp only [maxLen]; omega)) (below_alloc w _) (by simp)) ht hg hd (.inr (grown_of_below (below_alloc w _) _))

theorem B8_oneCell' (l : List UInt8) : ∀ v ∈ B8 l, v.oneCell' = true := B8_oneCell l
/-- The empty slice literal. -/
theorem own_empty (w : World) {B : Nat} (hB : B ≤ w.heap.size) (cs : Array Value) (h : cs = #[]) : Own (w.alloc (.cells cs 5)) B (some ⟨w.heap.size, 0, none⟩) 0 [] := own_lit w hB [] cs (by rw [h]; rfl) (by simp [maxLen])

/-- 'slice to array': the address. -/
theorem o_arrptr {e : TypeId} {A : Option Addr} (hu : P.underlying t = some (.array n e)) (hx : fr.ev x = some (.slice A len cap)) (h : n ≤ len) : OpV P N fr w (.sliceToArrayPointer t x) ty (.pointer A) w := fun a ha o ho _ => by
  have : ¬ len < n := by omega
  simp [execOp, ho, ha.ev hx, Instr.arrayAt, run_underlying hu, this]
/-- 'a[:]' of an array in a variable. -/
theorem o_slice_arr {e : TypeId} {ad : Addr} (hu : P.underlying t = some (.array n e)) (hs : ∀ w, (sizeOf e).run P w = .ok 1 w) (hx : fr.ev x = some (.pointer (some ad))) : OpV P N fr w (.slice t x none none none) ty (.slice (some ad) n n) w := fun a ha o ho _ => by
  simp [execOp, ho, ha.ev hx, Instr.sliceAt, Instr.sureAddr, run_underlying hu, Instr.sliceBounds, hs, Addr.add]

/-- '==' on arrays of bytes. -/
theorem o_aeq {e : TypeId} {xs ys : List UInt8} (hu : P.underlying t = some (.array n e)) (he : P.underlying e = some (.int .u8)) (hs : ∀ w, (sizeOf e).run P w = .ok 1 w) (hm : P.eqGuardType P.depth t = false)
    (hx : fr.ev x = some (.agg (B8 xs).toArray)) (hy : fr.ev y = some (.agg (B8 ys).toArray)) (h1 : xs.length = n) (h2 : ys.length = n) : OpV P N fr w (.binOp .eql t x y t') ty (.bool (decide (xs = ys))) w := fun a ha o ho _ => by
  have hr := run_eql_bytes (P := P) (w := w) t e n hu he hs xs ys h1 h2
  have hg := run_eqGuard_agg (P := P) (w := w) .eql t x y (B8 xs).toArray (B8 ys).toArray hm
  have hr' : (binOp .eql t (.agg (B8 xs).toArray) (.agg (B8 ys).toArray)).run P w = .ok (.bool (decide (xs = ys))) w := by
    have e : (xs == ys) = decide (xs = ys) := by rw [Bool.eq_iff_iff]; simp
    rw [← e]; exact hr
  simp [execOp, ho, ha.ev hx, ha.ev hy, hg, hr']
theorem o_ane {e : TypeId} {xs ys : List UInt8} (hu : P.underlying t = some (.array n e)) (he : P.underlying e = some (.int .u8)) (hs : ∀ w, (sizeOf e).run P w = .ok 1 w) (hm : P.eqGuardType P.depth t = false)
    (hx : fr.ev x = some (.agg (B8 xs).toArray)) (hy : fr.ev y = some (.agg (B8 ys).toArray)) (h1 : xs.length = n) (h2 : ys.length = n) : OpV P N fr w (.binOp .neq t x y t') ty (.bool (decide (xs ≠ ys))) w := fun a ha o ho _ => by
  have hr := run_equalIn_bytes (P := P) (w := w) 9998 t e n hu he hs xs ys h1 h2
  have hg := run_eqGuard_agg (P := P) (w := w) .neq t x y (B8 xs).toArray (B8 ys).toArray hm
  have hr' : (binOp .neq t (.agg (B8 xs).toArray) (.agg (B8 ys).toArray)).run P w = .ok (.bool (decide (xs ≠ ys))) w := by
    have e : (!(xs == ys)) = decide (xs ≠ ys) := by rw [Bool.eq_iff_iff]; simp
    rw [run_neq_struct, ← e]
    exact congrArg (fun r => Result.andThen r fun b w' => Result.ok (Value.bool (!b)) w') hr
  simp [execOp, ho, ha.ev hx, ha.ev hy, hg, hr']

theorem o_compl8 {n : Int} (hx : fr.ev x = some (.int .u8 n)) : OpV P N fr w (.unOp .xor t x) ty (.int .u8 (bits .xor .u8 255 n)) w := fun a ha o ho _ => by
  simp [execOp, ho, ha.ev hx, Op.unary, Op.intBits]
  rfl

/-- A result that lies in a variable of its own. -/
theorem ret_cell {p : Nat} {R : Value → World → Prop} (h : fn.results = #[.cell p t]) (hp : fr.get p = some (.pointer (some ⟨g, 0, none⟩))) (ha' : ∀ w, (isAgg t).run P w = .ok true w) (hs : ∀ w, (sizeOf t).run P w = .ok n w) (hB : Blk w g t' cs) (hn : cs.length = n)
    (hR : R (.agg cs.toArray) w) : RK P fn (fun e w' => ∃ v, e = .returned v ∧ R v w') N (.code .ret :: ks) fr w :=
  rk_ret (F := fun e w' => ∃ v, e = .returned v ∧ R v w') (fun a ha => ⟨.agg cs.toArray, by
    have hp' : a.tmps[p]?.getD undef = .pointer (some ⟨g, 0, none⟩) := by rw [ha.get p _ hp]; rfl
    subst hn
    have hl : (loadCells ⟨g, 0, none⟩ cs.length).run P w = .ok cs.toArray w := run_loadCells_list (P := P) w ⟨g, 0, none⟩ cs (fun j u hu => by rw [add_plain, hB.cell, Nat.zero_add]; exact hu)
    simp [results, h, hp', asAddr, loadVar, ha', hs, hl], ⟨_, rfl, hR⟩⟩)
end

/-! copy. -/
section
variable {P : Program} {fn : Func} {F : Ending → World → Prop} {N : Nat} {ks : List K} {ops : Array Oper} {tg : Tags} {l : List Oper} {fr : Fr} {w : World} {ty t t' t2 : TypeId} {pos : String} {aft : Array Edge} {gd : Option (Nat × Bool)} {d g o n c m k : Nat} {x y : Operand} {cs : List Value}
theorem run_firstCells {A : Option Addr} {s : List UInt8} (hr : Rd w A s) {q : Nat} (hq : q ≤ s.length) : (Builtin.firstCells 1 q (.slice A s.length k)).run P w = .ok (B8 (s.take q)).toArray w := by
  rcases Nat.eq_zero_or_pos q with h0 | h0
  · subst h0; cases A <;> simp [Builtin.firstCells, B8, loadCells, loadCellsFrom]
  · have hne : s ≠ [] := by intro e; subst e; simp at hq; omega
    obtain ⟨b, o, rfl, _, hc⟩ := hr.at_ hne
    have := run_loadCells_list (P := P) w ⟨b, o, none⟩ (B8 (s.take q)) (fun j u hu => by
      have hj : j < (s.take q).length := by
        rcases Nat.lt_or_ge j (s.take q).length with h | h
        · exact h
        · rw [List.getElem?_eq_none (by rw [B8_length]; exact h)] at hu; cases hu
      rw [B8_get _ _ hj] at hu
      have hj' : j < s.length := by simp at hj; omega
      rw [add_plain, hc j hj', ← hu]
      simp)
    rw [B8_length, List.length_take, Nat.min_eq_left hq] at this
    simp [Builtin.firstCells, this]
theorem wl_copy (T : U8 P t) {A : Option Addr} {s : List UInt8} (hx : fr.ev x = some (.slice (some ⟨g, o, none⟩) n c)) (hy : fr.ev y = some (.slice A m k)) (hm : m = s.length) (hr : Rd w A s) (hB : Blk w g t' cs) (hi : o + n ≤ cs.length)
    (h : ∀ w', Blk w' g t' (spl cs o (B8 (s.take n))) → w.grownBy w' (some g) → w'.heap.size = w.heap.size → WL P fn F N ks ops tg.tail l ((d, .int .i64 (min m n : Nat)) :: fr) w')
    (ht : tg.loud = true := by rfl) (hg : onG ops fr gd = true := by rfl) (hd : Nat.blt d N = true := by rfl) (hq : tg.calm = false ∨ some g = tg.row := by exact .inl rfl) :
    WL P fn F N ks ops tg (⟨some d, .call { callee := .builtin .copy, args := #[x, y], argTypes := #[t, t2] }, ty, pos, aft, gd⟩ :: l) fr w := by
  subst hm
  obtain ⟨i, hi', hz, hsz, hb⟩ := info_parts T.hi
  have hf := run_firstCells (P := P) (k := k) hr (q := min s.length n) (Nat.min_le_left _ _)
  have htk : s.take (min s.length n) = s.take n := by
    rcases Nat.le_total s.length n with h1 | h1
    · rw [Nat.min_eq_left h1, List.take_of_length_le (Nat.le_refl _), List.take_of_length_le h1]
    · rw [Nat.min_eq_right h1]
  rw [htk] at hf
  obtain ⟨w', hst, hB', hg', hz'⟩ := run_storeCells_blk (P := P) (o := o) (B8 (s.take n)) 0 cs w hB (B8_oneCell _) (by rw [B8_length, List.length_take]; omega)
  refine wl_v (w' := w') (o_builtin (xs := [x, y]) (vs := [.slice (some ⟨g, o, none⟩) n c, .slice A s.length k]) (by simp [Fr.evs, hx, hy]) ?_ (by simp)) (h w' hB' hg' hz') ht hg hd (hq.imp id fun (e : some g = tg.row) => e ▸ hg')
  have hmin : Nat.min s.length n = min s.length n := rfl
  simp [builtin, Builtin.copy_, run_underlying T.ht, sizeOf, typeInfo, hi', hsz, Builtin.lenOf, hmin, hf, hst]
  rfl
end
end Go.Proofs.YtahkeoegbjopfaaGreat
/-
  From a walk to a law's statement: the law returns true, nothing that was there has changed.
-/
namespace Go.Proofs.YtahkeoegbjopfaaGreat
set_option maxRecDepth 100000
open Go.ChangeShapes Go.WideShapes Go.ChangeAt Go.RowKit

theorem Tryz.own : ownKnob Tryz.prog.godebug = none := by kernel_rfl
theorem Tryz.laidOut : laidOutB Tryz.prog = true := by kernel_rfl

section
variable {H : Type} {enc : TypeId × Value → H} {P : Program}
theorem trodAll_stays (hl : laidOutB P = true) {W W' : World} (hb : Below W.heap.size W W') : ∀ (ts : List TypeId) (vs : List Value) (ds : List (DataW H)) (ps : List MemPlace),
    ts.all (fun t => P.readableRec t && decide (t < P.types.size)) = true → DataW.TrodAll enc P W 0 (fun _ => true) true ts vs ds ps → (∀ x ∈ ps, x.block < W.heap.size) → ∀ sp : Nat → Bool, (∀ x ∈ ps, sp x.block = true) →
    DataW.TrodAll enc P W' 0 sp true ts vs ds ps
  | [], [], [], _, _, h, _, _, _ => h
  | t :: ts, v :: vs, d :: ds, ps, hr, h, hlt, sp, hsp => by
    obtain ⟨p, q, h1, h2, rfl⟩ := h
    simp only [List.all_cons, Bool.and_eq_true, decide_eq_true_eq] at hr
    refine ⟨p, q, WideElems.Trod_stays hl hr.1.1 hr.1.2 h1 (fun x hx => hb.same (hlt x (by simp [hx]))) (fun x hx => hsp x (by simp [hx])), ?_, rfl⟩
    exact trodAll_stays hl hb ts vs ds q hr.2 h2 (fun x hx => hlt x (by simp [hx])) sp (fun x hx => hsp x (by simp [hx]))
  | [], [], _ :: _, _, _, h, _, _, _ => h.elim
  | [], _ :: _, _, _, _, h, _, _, _ => h.elim
  | _ :: _, [], _, _, _, h, _, _, _ => h.elim
  | _ :: _, _ :: _, [], _, _, h, _, _, _ => h.elim

theorem post_of_below {f : Func} {s : ChangeSpec} {apart fresh handsOn again : Bool} {W W' : World} {args : Array Value} {v : Value} {ds gs : List (DataW H)} {before pa pv : List MemPlace}
    (hW : DataW.Whole enc P f.params.toList s.vars apart W args.toList ds gs before)
    (hres : ∀ (b : Nat) (sp : Nat → Bool) (hd : Bool), DataW.TrodAll enc P W' b sp hd f.resultTypes.toList (v.resultList f.resultTypes.size) (s.fn H (ds ++ gs)).results [])
    (hargs : ∀ sp : Nat → Bool, (∀ p ∈ before, sp p.block = true) → DataW.TrodAll enc P W' 0 sp true f.params.toList args.toList (s.fn H (ds ++ gs)).args pa)
    (hvars : ∀ sp : Nat → Bool, (∀ p ∈ before, sp p.block = true) → DataW.TrodVars enc P W' sp s.vars (s.fn H (ds ++ gs)).vars pv)
    (hps : before = pa ++ pv) (hb : Below W.heap.size W W')
    (hok : ∀ (j : Nat) (t : TypeId) (r : Value), f.resultTypes[j]? = some t → (v.resultList f.resultTypes.size)[j]? = some r → Value.okWide P W' .any 0 t r) :
    s.post enc P f apart fresh handsOn again W args v W' := by
  have hlt : ∀ p ∈ before, p.block < W.heap.size := fun p hp => hW.lt p hp
  have hold : ∀ p ∈ before, (fun b => decide (b < W.heap.size)) p.block = true := fun p hp => by simpa using hlt p hp
  refine ⟨ds, gs, before, [], pa, pv, hW, hres _ _ _, hargs _ hold, hvars _ hold, World.keptBut_mono (fun p hp => ⟨hp, ?_⟩) (hb.frame (· ∈ before)), fun _ => ?_⟩
  · rw [hps, List.mem_append] at hp
    exact Or.inr hp
  · obtain ⟨_, _, _, _, _, hz, hn⟩ := hW
    refine ⟨hok, _, _, ([] ++ pa) ++ pv, ⟨[] ++ pa, pv, trodAll_append (hargs _ (fun _ _ => rfl)) (hres _ _ _), hvars _ (fun _ _ => rfl), rfl, ?_, ?_⟩, ?_⟩
    · intro b off hp
      have hin : MemPlace.cell b off ∈ before := by rw [hps]; simpa using hp
      rw [hb.frozen (hlt _ hin)]
      exact hz b off hin
    · intro ha
      have := hn ha
      rw [hps] at this
      simpa using this
    · intro p hp _
      rw [hps]
      simpa using hp

/-- A law's end: true is returned, the arguments read as they read. -/
theorem law_post (hl : laidOutB P = true) {f : Func} {s : ChangeSpec} {handsOn again : Bool} {W W' : World} {args : Array Value} {ds : List (DataW H)} {p : List MemPlace} (hrt : f.resultTypes = #[4]) (hu : P.underlying 4 = some .bool) (hvs : s.vars = [])
    (hread : f.params.toList.all (fun t => P.readableRec t && decide (t < P.types.size)) = true)
    (hfn : s.fn H ds = { results := [.lit (.bool true)], args := ds })
    (hW : DataW.Whole enc P f.params.toList s.vars false W args.toList ds [] p) (hA : DataW.TrodAll enc P W 0 (fun _ => true) true f.params.toList args.toList ds p) (hb : Below W.heap.size W W') :
    s.post enc P f false true handsOn again W args (.bool true) W' := by
  have hlt : ∀ x ∈ p, x.block < W.heap.size := fun x hx => hW.lt x hx
  refine post_of_below (pa := p) (pv := []) hW ?_ ?_ ?_ (by simp) hb ?_
  · intro b sp hd
    rw [List.append_nil, hfn, hrt]
    exact trodAll_cons_mk (shut_bool hu true) trodAll_mk0
  · intro sp hsp
    rw [List.append_nil, hfn]
    exact trodAll_stays hl hb _ _ _ _ hread hA hlt sp hsp
  · intro sp _
    rw [List.append_nil, hfn, hvs]
    rfl
  · intro j t r h1 h2
    rw [hrt] at h1 h2
    match j, h1, h2 with
    | 0, h1, h2 =>
      have e1 : t = 4 := by simpa using h1.symm
      have e2 : r = .bool true := by simpa [Value.resultList] using h2.symm
      subst e1; subst e2
      exact okWide_bool_mk hu true
    | j + 1, h1, _ => simp at h1
end

/-! Arguments, opened. -/
theorem spot_of_cell {w : World} {a : Addr} {v : Value} (h : w.cell? a = some v) : a = ⟨a.block, a.off, none⟩ := by
  unfold World.cell? at h
  split at h
  · split at h
    · cases h
    · rename_i hs
      cases a with
      | mk b o s => cases s <;> simp at hs ⊢
  · cases h
theorem reads_of_cells {w : World} {a : Addr} {xs : List Value} (h : ∀ i v, xs[i]? = some v → w.cell? (a.add i) = some v) : Reads w 1 (some a) xs.length xs := by
  refine ⟨by simp, fun hn => ?_⟩
  have h0 : ∃ v, xs[0]? = some v := by
    cases xs with
    | nil => exact absurd rfl hn
    | cons x _ => exact ⟨x, rfl⟩
  obtain ⟨v0, hv0⟩ := h0
  have hc := h 0 v0 hv0
  have ha : a.add 0 = a := by simp [Addr.add]
  rw [ha] at hc
  have hs := spot_of_cell hc
  exact ⟨a.block, a.off, by rw [← hs], fun j u hu => by rw [← add_plain, ← hs]; exact h j u hu⟩

section
variable {H : Type} {enc : TypeId × Value → H} {P : Program} {W : World} {base : Nat}
theorem open_nums {t e : TypeId} {k : IntKind} (hu : P.underlying t = some (.slice e)) (he : P.underlying e = some (.int k)) (hc : P.cellsOf e = 1) {v : Value} {d : DataW H} {p : List MemPlace} (hok : Value.okWide P W .any base t v)
    (h : DataW.Trod enc P W 0 (fun _ => true) true t v d p) : ∃ (A : Option Addr) (c : Nat) (zs : List Int), v = .slice A zs.length c ∧ Reads W 1 A zs.length (zs.map (Value.int k)) ∧ zs.length ≤ c ∧ c ≤ maxLen ∧ ∀ n ∈ zs, (Lit.int k n).wf = true := by
  obtain ⟨a0, len, cap, rfl⟩ := okWide_slice hu hok
  obtain ⟨fuel, hf⟩ := h
  rcases open_ints hu he hc hf with ⟨hcs, hx⟩ | ⟨a, len', cap', zs, hcs, _, hl, hm, hz, hx, hcell, hwz⟩
  · have e : (Value.slice a0 len cap) = .slice none 0 0 := by simpa [Value.cells] using hcs
    injection e with e1 e2 e3
    subst e1; subst e2; subst e3
    exact ⟨none, 0, [], rfl, Reads.none_ _ _ _, Nat.le_refl _, Nat.zero_le _, fun n hn => by cases hn⟩
  · have e : (Value.slice a0 len cap) = .slice (some a) len' cap' := by simpa [Value.cells] using hcs
    injection e with e1 e2 e3
    subst e1; subst e2; subst e3
    have hzl : zs.length = cap := by simpa using hz
    have htl : (zs.take len).length = len := by rw [List.length_take]; omega
    refine ⟨some a, cap, zs.take len, by rw [htl], ?_, by omega, hm, fun n hn => hwz n (List.mem_of_mem_take hn)⟩
    have := reads_of_cells (w := W) (a := a) (xs := (zs.take len).map (Value.int k)) (fun i v hv => by
      have hi : i < (zs.take len).length := by
        rcases Nat.lt_or_ge i (zs.take len).length with h | h
        · exact h
        · rw [List.getElem?_eq_none (by simpa using h)] at hv; cases hv
      rw [hcell i (by omega)]
      have hi2 : i < zs.length := by omega
      rw [List.getElem?_map, List.getElem?_take_of_lt (by omega), List.getElem?_eq_getElem hi2] at hv
      rw [← Option.some.inj hv]
      simp [hi2])
    simpa using this
theorem open_bytes {t : TypeId} (hu : P.underlying t = some (.slice 5)) (he : P.underlying 5 = some (.int .u8)) (hc : P.cellsOf 5 = 1) {v : Value} {d : DataW H} {p : List MemPlace} (hok : Value.okWide P W .any base t v)
    (h : DataW.Trod enc P W 0 (fun _ => true) true t v d p) : ∃ (A : Option Addr) (c : Nat) (l : List UInt8), v = .slice A l.length c ∧ Rd W A l ∧ l.length ≤ c ∧ c ≤ maxLen := by
  obtain ⟨A, c, zs, rfl, hr, hl, hm, hw⟩ := open_nums hu he hc hok h
  have hb : ∀ n ∈ zs, n = (((UInt8.ofNat n.toNat).toNat : Nat) : Int) := fun n hn => by
    have h1 := hw n hn
    have h2 : 0 ≤ n ∧ n ≤ 255 := by
      have := bounds_u8 h1
      omega
    exact byte_of n h2.1 h2.2
  have e : zs.map (Value.int .u8) = B8 (zs.map fun n => UInt8.ofNat n.toNat) := by
    unfold B8
    rw [List.map_map]
    exact List.map_congr_left fun n hn => by simp only [Function.comp]; rw [← hb n hn]
  refine ⟨A, c, zs.map fun n => UInt8.ofNat n.toNat, by simp, ?_, by simpa using hl, hm⟩
  unfold Rd
  rw [← e, List.length_map]
  exact hr
theorem bytes_of_vals : ∀ cs : List Value, (∀ v ∈ cs, ∃ m : Int, v = .int .u8 m ∧ 0 ≤ m ∧ m ≤ 255) → ∃ l : List UInt8, cs = B8 l
  | [], _ => ⟨[], rfl⟩
  | v :: cs, h => by
    obtain ⟨l, rfl⟩ := bytes_of_vals cs fun u hu => h u (by simp [hu])
    obtain ⟨m, rfl, h0, h1⟩ := h _ (List.mem_cons_self ..)
    exact ⟨UInt8.ofNat m.toNat :: l, by simp only [B8, List.map_cons]; rw [← byte_of m h0 h1]⟩
/-- An array of bytes, opened. -/
theorem open_arr8 {t : TypeId} {n : Nat} (hu : P.underlying t = some (.array n 5)) (he : P.underlying 5 = some (.int .u8)) (hct : P.cellTypes P.depth t = some (List.replicate n 5)) (hc : P.cellsOf t = n) {v : Value} (hok : Value.okWide P W .any base t v) :
    ∃ l : List UInt8, v = .agg (B8 l).toArray ∧ l.length = n := by
  simp only [Value.okWide, hu] at hok
  obtain ⟨cs, rfl, hs, ts, hts, -, hcell⟩ := hok
  rw [hct] at hts
  obtain rfl := Option.some.inj hts
  obtain ⟨l, hl⟩ := bytes_of_vals cs.toList (fun v hv => by
    obtain ⟨i, hi, rfl⟩ := List.mem_iff_getElem.1 hv
    have hi' : i < cs.size := by simpa using hi
    obtain ⟨u, hu1, hu2⟩ := hcell i _ (Array.getElem?_eq_getElem hi')
    have h5 : u = 5 := by
      rw [List.getElem?_replicate] at hu1
      split at hu1
      · exact (Option.some.inj hu1).symm
      · cases hu1
    subst h5
    rw [Array.getElem_toList]
    generalize cs[i] = v at hu2 ⊢
    simp only [Cell.okWide, he] at hu2
    cases v <;> simp only [Cell.ok, he] at hu2
    obtain ⟨rfl, h1, h2⟩ := hu2
    exact ⟨_, rfl, h1, h2⟩)
  refine ⟨l, by rw [← hl], ?_⟩
  have := congrArg List.length hl
  rw [B8_length] at this
  rw [← this, ← hc, ← hs]
  simp
end
end Go.Proofs.YtahkeoegbjopfaaGreat
/-
  Bytes.
-/
namespace Go.Proofs.YtahkeoegbjopfaaGreat
set_option maxRecDepth 100000
abbrev By := List UInt8
end Go.Proofs.YtahkeoegbjopfaaGreat
/-
  Slices of bytes as a type of this seat.
-/
namespace Go.Proofs.YtahkeoegbjopfaaGreat
set_option maxRecDepth 100000
theorem Tryz.u8 : U8 Tryz.prog 39 := ⟨Tryz.underlying39, by kernel_rfl, Tryz.underlying5⟩
--@ side Tryz.u8
end Go.Proofs.YtahkeoegbjopfaaGreat
/-
  DERIVED: THE SHELF's CONTRACTS AT THIS DUMP, IN PLAIN WORDS (tools/lay-plain.mjs out of 'TryShelf.lean', which tools/lay-shelf.mjs wrote): THE SAME DECLARATIONS UNDER THE SAME NAMES: 'import', 'namespace', 'open', 'def', 'theorem' AND NOTHING ELSE: no command of the shelf's: FOR A HAND-IN. Each laying: the table of numbers ('.._ren') and one theorem, a field a fact of the dump's own or the kernel's comparison; each contract: ONE APPLICATION.
-/
namespace Go.Proofs
open Go.Shelf
def Tryz.lays126_ren : Go.Shelf.Ren := ⟨fun | 126 => 186 | n => n, fun | 5 => 5 | 3 => 3 | 9 => 9 | n => n, fun | n => n⟩
theorem Tryz.lays126 : Go.Proofs.Lays.n126 Tryz.prog Tryz.lays126_ren := {
  mixed := by kernel_rfl
  f126 := Tryz.func186.trans (congrArg some (by kernel_rfl))
  t3 := Tryz.underlying3
  a3 := Tryz.isAgg3
  z3 := Tryz.sizeOf3
  v3 := Tryz.zeroValue3
  t5 := Tryz.underlying5
  a5 := Tryz.isAgg5
  z5 := Tryz.sizeOf5
  v5 := Tryz.zeroValue5
  t9 := Tryz.underlying9
  a9 := Tryz.isAgg9
  z9 := Tryz.sizeOf9
  v9 := Tryz.zeroValue9 }
theorem Tryz.bits_Len8 (x : Int) (w : World) (h0 : 0 ≤ x) (h1 : x ≤ 255) :
    Calls Tryz.prog 186 #[.int .u8 x] w fun e w' => e = .returned (.int .i64 (Lib.bitLen x.toNat)) ∧ w' = w := Any.bits_Len8 Tryz.lays126 x w h0 h1
def Tryz.lays131_ren : Go.Shelf.Ren := ⟨fun | 131 => 180 | 126 => 186 | n => n, fun | 5 => 5 | 3 => 3 | 9 => 9 | n => n, fun | n => n⟩
theorem Tryz.lays131 : Go.Proofs.Lays.n131 Tryz.prog Tryz.lays131_ren := {
  mixed := by kernel_rfl
  f126 := Tryz.func186.trans (congrArg some (by kernel_rfl))
  f131 := Tryz.func180.trans (congrArg some (by kernel_rfl))
  t3 := Tryz.underlying3
  a3 := Tryz.isAgg3
  z3 := Tryz.sizeOf3
  v3 := Tryz.zeroValue3
  t5 := Tryz.underlying5
  a5 := Tryz.isAgg5
  z5 := Tryz.sizeOf5
  v5 := Tryz.zeroValue5
  t9 := Tryz.underlying9
  a9 := Tryz.isAgg9
  z9 := Tryz.sizeOf9
  v9 := Tryz.zeroValue9 }
theorem Tryz.bits_LeadingZeros8 (x : Int) (w : World) (h0 : 0 ≤ x) (h1 : x ≤ 255) :
    Calls Tryz.prog 180 #[.int .u8 x] w fun e w' => e = .returned (.int .i64 (8 - (Lib.bitLen x.toNat : Int))) ∧ w' = w := Any.bits_LeadingZeros8 Tryz.lays131 x w h0 h1
def Tryz.lays129_ren : Go.Shelf.Ren := ⟨fun | 129 => 179 | n => n, fun | 53 => 43 | 3 => 3 | 4 => 4 | 46 => 102 | 5 => 5 | 9 => 9 | n => n, fun | n => n⟩
theorem Tryz.lays129 : Go.Proofs.Lays.n129 Tryz.prog Tryz.lays129_ren := {
  mixed := by kernel_rfl
  f129 := Tryz.func179.trans (congrArg some (by kernel_rfl))
  t3 := Tryz.underlying3
  a3 := Tryz.isAgg3
  z3 := Tryz.sizeOf3
  v3 := Tryz.zeroValue3
  t4 := Tryz.underlying4
  a4 := Tryz.isAgg4
  z4 := Tryz.sizeOf4
  v4 := Tryz.zeroValue4
  t5 := Tryz.underlying5
  a5 := Tryz.isAgg5
  z5 := Tryz.sizeOf5
  v5 := Tryz.zeroValue5
  t9 := Tryz.underlying9
  a9 := Tryz.isAgg9
  z9 := Tryz.sizeOf9
  v9 := Tryz.zeroValue9
  t46 := Tryz.underlying102
  a46 := Tryz.isAgg102
  z46 := Tryz.sizeOf102
  v46 := Tryz.zeroValue102
  t53 := Tryz.underlying43
  a53 := Tryz.isAgg43
  z53 := Tryz.sizeOf43
  v53 := Tryz.zeroValue43 }
theorem Tryz.bits_Len64 (x : Int) (w : World) (h0 : 0 ≤ x) (h1 : x ≤ 18446744073709551615) :
    Calls Tryz.prog 179 #[.int .u64 x] w fun e w' => e = .returned (.int .i64 (Lib.bitLen x.toNat)) ∧ w' = w := Any.bits_Len64 Tryz.lays129 x w h0 h1
end Go.Proofs
/-
  Plain mathematics of the bytes of numbers: no program in sight.
-/
namespace Go.Proofs.YtahkeoegbjopfaaGreat
set_option maxRecDepth 100000

/-- How many bytes a number has. -/
def room (n : Nat) : Nat :=
  if n < 128 then 1 else if n < 16384 then 2 else if n < 2097152 then 3 else if n < 268435456 then 4 else if n < 34359738368 then 5
  else if n < 4398046511104 then 6 else if n < 562949953421312 then 7 else if n < 72057594037927936 then 8 else 9

theorem room_pos (n : Nat) : 1 ≤ room n ∧ room n ≤ 9 := by
  unfold room
  refine ⟨?_, ?_⟩ <;> (repeat' split) <;> omega

theorem or_one (n : Nat) : n ||| 1 = n / 2 * 2 + 1 := by
  rcases Nat.mod_two_eq_zero_or_one n with h | h
  · rw [nat_join 1 n 1 (by simpa using h) (by omega)]; omega
  · have e : n = (n - 1) ||| 1 := by rw [nat_join 1 (n - 1) 1 (by simp; omega) (by omega)]; omega
    have e2 : n ||| 1 = n := by
      have : n ||| 1 = (n - 1) ||| 1 ||| 1 := by rw [← e]
      rw [this, Nat.or_assoc, Nat.or_self, ← e]
    rw [e2]; omega

theorem bl_lo (k x : Nat) (h : 2 ^ k ≤ x) (hx : x < 2 ^ 64) : k + 1 ≤ Lib.bitLen x := by
  rw [Lib.bitLen_shift k x h hx]
  have h1 : 1 ≤ x / 2 ^ k := (Nat.one_le_div_iff (Nat.two_pow_pos k)).2 h
  have h2 : x / 2 ^ k < 2 ^ 64 := Nat.lt_of_le_of_lt (Nat.div_le_self _ _) hx
  rw [Lib.bitLen_half _ (by omega) h2]
  omega

theorem size_room (n : Nat) (h : n < 18446744073709551616) : min (((Lib.bitLen (n ||| 1) : Int) + 6) / 7) 9 = (room n : Int) := by
  have hy := or_one n
  generalize n ||| 1 = y at *
  have y1 : y ≤ n + 1 := by omega
  have y2 : n ≤ y := by omega
  have y3 : y < 2 ^ 64 := by simp; omega
  have hodd : y % 2 = 1 := by omega
  clear hy
  have lo := fun k hk => bl_lo k y hk y3
  have hi := fun k hk hx => Lib.bitLen_le y k hk hx
  unfold room
  split
  · have := lo 0 (by simp; omega); have := hi 7 (by omega) (by simp; omega); omega
  split
  · have := lo 7 (by simp; omega); have := hi 14 (by omega) (by simp; omega); omega
  split
  · have := lo 14 (by simp; omega); have := hi 21 (by omega) (by simp; omega); omega
  split
  · have := lo 21 (by simp; omega); have := hi 28 (by omega) (by simp; omega); omega
  split
  · have := lo 28 (by simp; omega); have := hi 35 (by omega) (by simp; omega); omega
  split
  · have := lo 35 (by simp; omega); have := hi 42 (by omega) (by simp; omega); omega
  split
  · have := lo 42 (by simp; omega); have := hi 49 (by omega) (by simp; omega); omega
  split
  · have := lo 49 (by simp; omega); have := hi 56 (by omega) (by simp; omega); omega
  · have := lo 56 (by simp; omega); omega

/-- The low j bytes of a number, the highest first. -/
def beB : Nat → Nat → List UInt8
  | 0, _ => []
  | j + 1, n => UInt8.ofNat (n / 256 ^ j) :: beB j n
theorem beB_length : ∀ j n, (beB j n).length = j
  | 0, _ => rfl
  | j + 1, n => by simp [beB, beB_length j n]

/-- The first of k bytes. -/
def first (k n : Nat) : UInt8 := UInt8.ofNat (256 - 2 ^ (9 - k) + n / 256 ^ (k - 1))
/-- The bytes of a number. -/
def enc (n : Nat) : List UInt8 := first (room n) n :: beB (room n - 1) n
theorem enc_length (n : Nat) : (enc n).length = room n := by
  have := room_pos n
  simp [enc, beB_length]; omega

/-- The low k bytes of a number, the lowest first. -/
def leB : Nat → Nat → List UInt8
  | 0, _ => []
  | k + 1, n => leB k n ++ [UInt8.ofNat (n / 256 ^ k)]
theorem leB_length : ∀ k n, (leB k n).length = k
  | 0, _ => rfl
  | k + 1, n => by simp [leB, leB_length k n]

def clampN (size : Int) : Nat := (max 1 (min size 8)).toNat
theorem clampN_bd (size : Int) : 1 ≤ clampN size ∧ clampN size ≤ 8 ∧ max 1 (min size 8) = (clampN size : Int) := by unfold clampN; omega

/-- A Go byte of a shifted number. -/
theorem byte_shift (n j : Nat) (hj : j ≤ 8) : IntKind.u8.wrap ((n : Int) / 2 ^ min (8 * (j : Int)).toNat IntKind.u64.bits) = ((UInt8.ofNat (n / 256 ^ j)).toNat : Int) := by
  have e : min (8 * (j : Int)).toNat IntKind.u64.bits = 8 * j := by
    show min (8 * (j : Int)).toNat 64 = 8 * j
    omega
  rw [e, UInt8.toNat_ofNat', IntKind.wrap_u8', show (256 : Nat) ^ j = 2 ^ (8 * j) from by rw [Nat.pow_mul]]
  rw [show ((2 : Int) ^ (8 * j)) = ((2 ^ (8 * j) : Nat) : Int) from by simp, ← Int.natCast_ediv]
  generalize n / 2 ^ (8 * j) = q
  omega

theorem room_lt (n : Nat) (h : n < 18446744073709551616) : n / 256 ^ (room n - 1) < 2 ^ (8 - room n) := by
  unfold room
  repeat' split
  all_goals (simp; omega)

theorem first_byte (n : Nat) (h : n < 18446744073709551616) :
    bits .or .u8 (IntKind.u8.wrap (255 * 2 ^ min (9 - (room n : Int)).toNat IntKind.u8.bits)) (IntKind.u8.wrap ((n : Int) / 2 ^ min (8 * ((room n : Int) - 1)).toNat IntKind.u64.bits)) = ((first (room n) n).toNat : Int) := by
  have hk := room_pos n
  have hlt := room_lt n h
  have e1 : (8 * ((room n : Int) - 1)) = 8 * ((room n - 1 : Nat) : Int) := by omega
  rw [e1, byte_shift n (room n - 1) (by omega)]
  unfold first
  generalize hq : n / 256 ^ (room n - 1) = q at *
  have hq256 : q < 256 := Nat.lt_of_lt_of_le hlt (Nat.pow_le_pow_right (by omega) (show 8 - room n ≤ 8 by omega))
  have e2 : (IntKind.u8.wrap (255 * 2 ^ min (9 - (room n : Int)).toNat IntKind.u8.bits)) = ((256 - 2 ^ (9 - room n) : Nat) : Int) := by
    have h3 : ∀ k : Fin 10, 1 ≤ k.val → (IntKind.u8.wrap (255 * 2 ^ min (9 - (k.val : Int)).toNat IntKind.u8.bits)) = ((256 - 2 ^ (9 - k.val) : Nat) : Int) := by decide +kernel
    exact h3 ⟨room n, by omega⟩ hk.1
  rw [e2, UInt8.toNat_ofNat', UInt8.toNat_ofNat', Nat.mod_eq_of_lt hq256]
  have h5 : 2 ^ (8 - room n) ≤ 2 ^ (9 - room n) := Nat.pow_le_pow_right (by omega) (by omega)
  have h6 : 2 ^ (9 - room n) ≤ 256 := Nat.pow_le_pow_right (show 0 < 2 by omega) (show 9 - room n ≤ 8 by omega)
  have h7 : 0 < 2 ^ (9 - room n) := Nat.two_pow_pos _
  rw [u8_or_nat _ _ (by omega) hq256, nat_join (9 - room n) _ _ ?_ (by omega)]
  · omega
  · have h8 : 256 = 2 ^ (9 - room n) * 2 ^ (room n - 1) := by rw [← Nat.pow_add, show 9 - room n + (room n - 1) = 8 from by omega]
    have h9 : 256 - 2 ^ (9 - room n) = 2 ^ (9 - room n) * (2 ^ (room n - 1) - 1) := by rw [Nat.mul_sub, ← h8, Nat.mul_one]
    rw [h9]; exact Nat.mul_mod_right _ _

/-! What a reader does, on what is left and its error (ErrBad 4, ErrMore 5). -/
def lead (c : UInt8) : Nat := if c.toNat < 128 then 1 else if c.toNat < 192 then 2 else if c.toNat < 224 then 3 else if c.toNat < 240 then 4 else if c.toNat < 248 then 5 else if c.toNat < 252 then 6
  else if c.toNat < 254 then 7 else if c.toNat < 255 then 8 else 9
theorem lead_bd (c : UInt8) : 1 ≤ lead c ∧ lead c ≤ 9 := by
  unfold lead
  refine ⟨?_, ?_⟩ <;> (repeat' split) <;> omega
def beVal (n : Nat) (l : List UInt8) : Nat := l.foldl (fun a c => a * 256 + c.toNat) n
def leVal : List UInt8 → Nat
  | [] => 0
  | c :: r => c.toNat + 256 * leVal r
abbrev RS := List UInt8 × Nat
def rTake (n : Nat) (s : RS) : List UInt8 × RS := if s.2 ≠ 0 then ([], s) else if s.1.length < n then ([], (s.1, 5)) else (s.1.take n, (s.1.drop n, 0))
def rNumber (s : RS) : Nat × RS := if s.2 ≠ 0 then (0, s) else match s.1 with
  | [] => (0, ([], 5))
  | c :: t => if t.length + 1 < lead c then (0, (s.1, 5))
    else if room (beVal (c.toNat % 2 ^ (8 - lead c)) (t.take (lead c - 1))) = lead c then (beVal (c.toNat % 2 ^ (8 - lead c)) (t.take (lead c - 1)), (t.drop (lead c - 1), 0))
    else (0, (s.1, 4))
def rBlock (s : RS) : List UInt8 × RS :=
  if (rNumber s).2.2 ≠ 0 then ([], (s.1, (rNumber s).2.2)) else if (rNumber s).2.1.length < (rNumber s).1 then ([], (s.1, 5)) else ((rNumber s).2.1.take (rNumber s).1, ((rNumber s).2.1.drop (rNumber s).1, 0))
def rWord (size : Int) (s : RS) : Nat × RS := (leVal (rTake (clampN size) s).1, (rTake (clampN size) s).2)
def nulls (n : Nat) : List UInt8 := List.replicate n 0
def rDigest (s : RS) : List UInt8 × RS := (if (rTake 32 s).2.2 ≠ 0 then nulls 32 else (rTake 32 s).1, (rTake 32 s).2)
def rEnd (s : RS) : Nat := if s.2 ≠ 0 then s.2 else if s.1 ≠ [] then 4 else 0

theorem rNumber_err {s : List UInt8} {e : Nat} (h : e ≠ 0) : rNumber (s, e) = (0, (s, e)) := by simp [rNumber, h]
theorem rNumber_nil : rNumber ([], 0) = (0, ([], 5)) := by simp [rNumber]
theorem rNumber_more {c : UInt8} {t : List UInt8} (h : t.length + 1 < lead c) : rNumber (c :: t, 0) = (0, (c :: t, 5)) := by simp [rNumber, h]
theorem rNumber_bad {c : UInt8} {t : List UInt8} (h : ¬ t.length + 1 < lead c) (h2 : room (beVal (c.toNat % 2 ^ (8 - lead c)) (t.take (lead c - 1))) ≠ lead c) : rNumber (c :: t, 0) = (0, (c :: t, 4)) := by simp [rNumber, h, h2]
theorem rNumber_ok {c : UInt8} {t : List UInt8} (h : ¬ t.length + 1 < lead c) (h2 : room (beVal (c.toNat % 2 ^ (8 - lead c)) (t.take (lead c - 1))) = lead c) :
    rNumber (c :: t, 0) = (beVal (c.toNat % 2 ^ (8 - lead c)) (t.take (lead c - 1)), (t.drop (lead c - 1), 0)) := by simp [rNumber, h, h2]

theorem beVal_snoc (n : Nat) (l : List UInt8) (c : UInt8) : beVal n (l ++ [c]) = beVal n l * 256 + c.toNat := by simp [beVal]
theorem beVal_lt : ∀ (l : List UInt8) (n k : Nat), n < 2 ^ k → beVal n l < 2 ^ (k + 8 * l.length)
  | [], n, k, h => by simpa [beVal] using h
  | c :: l, n, k, h => by
    have h1 : n * 256 + c.toNat < 2 ^ (k + 8) := by
      have := c.toNat_lt
      rw [Nat.pow_add]
      omega
    have := beVal_lt l (n * 256 + c.toNat) (k + 8) h1
    have e : beVal n (c :: l) = beVal (n * 256 + c.toNat) l := rfl
    rw [e, List.length_cons, show k + 8 * (l.length + 1) = k + 8 + 8 * l.length from by omega]
    exact this
theorem beVal_u64 (c : UInt8) (l : List UInt8) (h : l.length ≤ lead c - 1) : beVal (c.toNat % 2 ^ (8 - lead c)) l < 18446744073709551616 := by
  have hk := lead_bd c
  have h1 := beVal_lt l (c.toNat % 2 ^ (8 - lead c)) (8 - lead c) (Nat.mod_lt _ (Nat.two_pow_pos _))
  exact Nat.lt_of_lt_of_le h1 (Nat.pow_le_pow_right (by omega) (show 8 - lead c + 8 * l.length ≤ 64 by omega))
/-- The bits behind the first ones. -/
theorem mask_byte (c : UInt8) : bits .and .u8 (c.toNat : Int) (255 / 2 ^ min ((lead c : Int)).toNat IntKind.u8.bits) = ((c.toNat % 2 ^ (8 - lead c) : Nat) : Int) := by
  have : ∀ c : Fin 256, bits .and .u8 (c.val : Int) (255 / 2 ^ min ((lead (UInt8.ofNat c.val) : Int)).toNat IntKind.u8.bits) = ((c.val % 2 ^ (8 - lead (UInt8.ofNat c.val)) : Nat) : Int) := by decide +kernel
  simpa using this ⟨c.toNat, c.toNat_lt⟩
/-- One more byte. -/
theorem join_byte (n : Nat) (c : UInt8) (h : n * 256 < 18446744073709551616) : bits .or .u64 (IntKind.u64.wrap ((n : Int) * 2 ^ min ((8 : Int)).toNat IntKind.u64.bits)) (c.toNat : Int) = ((n * 256 + c.toNat : Nat) : Int) := by
  have hc := c.toNat_lt
  have e : IntKind.u64.wrap ((n : Int) * 2 ^ min ((8 : Int)).toNat IntKind.u64.bits) = ((n * 256 : Nat) : Int) := by
    show ((n : Int) * 256) % 18446744073709551616 = _
    omega
  rw [e, u64_or_nat _ _ h (by omega), nat_join 8 _ _ (by simp) (by simpa using hc)]

theorem leVal_snoc : ∀ (l : List UInt8) (c : UInt8), leVal (l ++ [c]) = leVal l + c.toNat * 256 ^ l.length
  | [], c => by simp [leVal]
  | d :: l, c => by
    simp only [List.cons_append, leVal, leVal_snoc l c, List.length_cons, Nat.pow_succ]
    generalize 256 ^ l.length = q
    rw [Nat.mul_add, Nat.mul_left_comm, Nat.mul_comm 256 q]
    omega
theorem leVal_lt : ∀ l : List UInt8, leVal l < 256 ^ l.length
  | [] => by simp [leVal]
  | c :: l => by
    have h1 := leVal_lt l
    have h2 := c.toNat_lt
    simp only [leVal, List.length_cons, Nat.pow_succ]
    omega
/-- One more byte, the lowest first. -/
theorem or_byte (l : List UInt8) (c : UInt8) (h : l.length < 8) :
    bits .or .u64 (leVal l : Int) (IntKind.u64.wrap ((c.toNat : Int) * 2 ^ min (8 * (l.length : Int)).toNat IntKind.u64.bits)) = (leVal (l ++ [c]) : Int) := by
  have hc := c.toNat_lt
  have h1 := leVal_lt l
  have e1 : min (8 * (l.length : Int)).toNat IntKind.u64.bits = 8 * l.length := by
    show min (8 * (l.length : Int)).toNat 64 = 8 * l.length
    omega
  have hp : (256 : Nat) ^ l.length = 2 ^ (8 * l.length) := by rw [Nat.pow_mul]
  have hle : 2 ^ (8 * l.length) ≤ 2 ^ 56 := Nat.pow_le_pow_right (by omega) (by omega)
  have hq : c.toNat * 2 ^ (8 * l.length) < 18446744073709551616 := by
    have : c.toNat * 2 ^ (8 * l.length) ≤ 255 * 2 ^ 56 := Nat.mul_le_mul (by omega) hle
    omega
  rw [hp] at h1
  have e2 : IntKind.u64.wrap ((c.toNat : Int) * 2 ^ (8 * l.length)) = ((c.toNat * 2 ^ (8 * l.length) : Nat) : Int) := by
    have e3 : ((c.toNat : Int) * 2 ^ (8 * l.length)) = ((c.toNat * 2 ^ (8 * l.length) : Nat) : Int) := by simp
    rw [e3]
    show ((c.toNat * 2 ^ (8 * l.length) : Nat) : Int) % 18446744073709551616 = _
    omega
  rw [e1, e2, u64_or_nat _ _ (by omega) hq, Nat.or_comm, nat_join (8 * l.length) _ _ (Nat.mul_mod_left _ _) h1, leVal_snoc, hp, Nat.add_comm]
theorem leVal_u64 (l : List UInt8) (h : l.length ≤ 8) : leVal l < 18446744073709551616 :=
  Nat.lt_of_lt_of_le (leVal_lt l) (Nat.le_trans (Nat.pow_le_pow_right (by omega) h) (by decide))
end Go.Proofs.YtahkeoegbjopfaaGreat
/-
  Walks of package octet: sizes, bytes of numbers.
-/
namespace Go.Proofs.YtahkeoegbjopfaaGreat
set_option maxRecDepth 100000
open Go.RowKit

theorem C_clamp (n : Int) (w : World) : CallsR Tryz.prog 68 [.int .i64 n] w fun v w' => v = .int .i64 (max 1 (min n 8)) ∧ w = w' := by
  refine callsR Tryz.func68 rfl rfl (by kernel_rfl) rfl ?_
  refine rk_seq ?_
  refine rk_region ?_
  refine wl_p (fun _ => o_assign rfl) ?_
  refine wl_nil ?_
  refine rk_seq ?_
  refine rk_region ?_
  refine wl_p (fun _ => o_move rfl) ?_
  refine wl_p (fun _ => o_min rfl rfl) ?_
  refine wl_p (fun _ => o_max rfl rfl) ?_
  refine wl_p (fun _ => o_assign rfl) ?_
  refine wl_nil ?_
  refine ret1 rfl rfl ?_
  exact ⟨rfl, rfl⟩


theorem C_grown {A : Option Addr} {l : List UInt8} {k : Nat} (c : Nat) (hk : k = l.length) (n : Int) (w : World) (hr : Rd w A l) (hn : 0 ≤ n) (hl : l.length + n.toNat ≤ 140737488355328) :
    CallsR Tryz.prog 66 [.slice A k c, .int .i64 n] w fun v w' => ∃ A' c', v = .slice A' l.length c' ∧ Own w' w.heap.size A' c' l ∧ Below w.heap.size w w' := by
  subst hk
  refine callsR Tryz.func66 rfl rfl (by kernel_rfl) rfl ?_
  refine rk_seq ?_
  refine rk_region ?_
  refine wl_p (fun _ => o_assign rfl) ?_
  refine wl_nil ?_
  refine rk_seq ?_
  refine rk_region ?_
  refine wl_p (fun _ => o_move rfl) ?_
  refine wl_p (fun _ => o_len (t := 39) Tryz.underlying39 rfl) ?_
  refine wl_p (fun _ => o_move rfl) ?_
  refine wl_p (fun _ => o_add rfl rfl (by omega) (by omega)) ?_
  refine wl_make0 (n := l.length + n.toNat) Tryz.u8 rfl rfl (by omega) (by omega) ?_
  intro w9 hown9 hb9 hs9
  refine wl_p (fun _ => o_move rfl) ?_
  refine wl_app (s := []) Tryz.u8 rfl rfl hown9 rfl rfl (hr.below hb9) (by simp; omega) (by omega) ?_
  intro A11 c11 w11 hown11 hg11 hk11 hb11
  refine wl_p (fun _ => o_assign rfl) ?_
  refine wl_nil ?_
  refine ret1 rfl rfl ?_
  exact ⟨A11, c11, by simp, hown11, hb9.trans hb11⟩

/-- Numbers of 64 bits. -/
abbrev u64 : Nat := 18446744073709551616

theorem C_len64 (x : Int) (w : World) (h0 : 0 ≤ x) (h1 : x ≤ 18446744073709551615) : CallsR Tryz.prog 179 [.int .u64 x] w fun v w' => v = .int .i64 (Lib.bitLen x.toNat) ∧ w = w' :=
  ⟨⟨_, Tryz.func179, rfl, by kernel_rfl⟩, (Tryz.bits_Len64 x w h0 h1).mono fun _ _ h => ⟨_, h.1, rfl, h.2.symm⟩⟩

theorem C_size (n : Nat) (w : World) (hn : n < u64) : CallsR Tryz.prog 159 [.int .u64 n] w fun v w' => v = .int .i64 (room n) ∧ w = w' := by
  have ho : n ||| 1 < u64 := by have := or_one n; unfold u64 at *; omega
  refine callsR Tryz.func159 rfl rfl (by kernel_rfl) rfl ?_
  refine rk_seq ?_
  refine rk_region ?_
  refine wl_p (fun _ => o_assign rfl) ?_
  refine wl_nil ?_
  refine rk_seq ?_
  refine rk_region ?_
  refine wl_p (fun _ => o_move rfl) ?_
  refine wl_p (fun _ => o_asi (o_or rfl rfl) (u64_or_nat n 1 hn (by omega))) ?_
  refine wl_call rfl (C_len64 _ _ (by omega) (by unfold u64 at ho; omega)) ?_
  rintro _ w5 ⟨rfl, rfl⟩
  have hb := Lib.bitLen_le (n ||| 1) 64 (by omega) ho
  rw [show ((n ||| 1 : Nat) : Int).toNat = n ||| 1 from by omega]
  refine wl_p (fun _ => o_add rfl rfl (by omega) (by omega)) ?_
  refine wl_p (fun _ => o_quo rfl rfl (by omega) (by omega) (by omega)) ?_
  refine wl_p (fun _ => o_min rfl rfl) ?_
  refine wl_p (fun _ => o_assign rfl) ?_
  refine wl_nil ?_
  refine ret1 rfl rfl ?_
  exact ⟨by rw [← size_room n hn], rfl⟩

theorem Tryz.lit8 (c : Int) (w : World) : (Instr.buildSlice 39 1 ([0].zip [Value.int .u8 c]).toArray).run Tryz.prog w = .ok (.slice (some ⟨w.heap.size, 0, none⟩) 1 1) (w.alloc (.cells #[.int .u8 c] 5)) := by kernel_rfl

theorem C_number {B : Nat} {A : Option Addr} {l : List UInt8} (c : Nat) (n : Nat) (w : World) (hB : B ≤ w.heap.size) (hown : Own w B A c l) (hn : n < u64) (hl : l.length ≤ 140737488355200) :
    CallsR Tryz.prog 158 [.slice A l.length c, .int .u64 n] w fun v w' => ∃ A' c', v = .slice A' (l ++ enc n).length c' ∧ Own w' B A' c' (l ++ enc n) ∧ Below B w w' := by
  have hk := room_pos n
  refine callsR Tryz.func158 rfl rfl (by kernel_rfl) rfl ?_
  refine rk_seq ?_
  refine rk_region ?_
  refine wl_p (fun _ => o_assign rfl) ?_
  refine wl_nil ?_
  refine rk_seq ?_
  refine rk_region ?_
  refine wl_p (fun _ => o_move rfl) ?_
  refine wl_call rfl (C_size n w hn) ?_
  rintro _ w8 ⟨rfl, rfl⟩
  refine wl_p (fun _ => o_assign rfl) ?_
  refine wl_nil ?_
  refine rk_seq ?_
  refine rk_draw (id := 2) (none) [0, 0, 2, 4, 0, 0, 32, 64, 144, 256, 520, 1024, 2049, 8191] [0, 0, 2, 6, 0, 0, 32, 96, 240, 496, 1022, 2046, 4095, 8191] 6144 0 [(.p, 0), (.p, 1), (.p, 2), (.p, 3), (.p, 4), (.p, 5), (.p, 6), (.p, 7), (.p, 8), (.p, 9), (.p, 10), (.l, 11), (.l, 12), (.p, 13)] (by kernel_rfl) (by kernel_rfl) (by kernel_rfl) (by kernel_rfl) (by kernel_rfl) ?_
  refine wl_p (fun _ => o_move rfl) ?_
  refine wl_p (fun _ => o_move rfl) ?_
  refine wl_p (fun _ => o_sub rfl rfl (by omega) (by omega)) ?_
  refine wl_p (fun _ => o_shl rfl rfl (by omega)) ?_
  refine wl_p (fun _ => o_move rfl) ?_
  refine wl_p (fun _ => o_move rfl) ?_
  refine wl_p (fun _ => o_sub rfl rfl (by omega) (by omega)) ?_
  refine wl_p (fun _ => o_mul rfl rfl (by omega) (by omega)) ?_
  refine wl_p (fun _ => o_shr rfl rfl (by omega)) ?_
  refine wl_p (fun _ => o_convi (src := 43) (dst := 5) Tryz.underlying43 Tryz.underlying5 rfl) ?_
  refine wl_p (fun _ => o_asi (o_or rfl rfl) (first_byte n hn)) ?_
  refine wl_v (o_lit (is := [0]) (xs := [.tmp 19]) rfl (Tryz.lit8 _ _)) ?_
  refine wl_app (m := [first (room n) n]) Tryz.u8 rfl rfl ((hown.drew).alloc _) rfl rfl (rd_lit _ _ _ rfl) (by simp; omega) (by simp; omega) ?_
  intro A21 c21 w21 hown21 hg21 hk21 hb21
  refine wl_p (fun _ => o_assign rfl) ?_
  refine wl_nild ?_
  refine rk_seq ?_
  refine rk_seq ?_
  refine rk_region ?_
  refine wl_p (fun _ => o_move rfl) ?_
  refine wl_p (fun _ => o_sub rfl rfl (by omega) (by omega)) ?_
  refine wl_p (fun _ => o_assign rfl) ?_
  refine wl_nil ?_
  refine rk_block ?_
  have hb0 : Below B w w21 := ((Below.refl B w).drew.alloc hB _).trans hb21
  refine rk_loop (fun j fr w' => ∃ A' c' l' i, fr = [(0, .slice A' l'.length c'), (1, .int .u64 n), (6, .int .i64 i)] ∧ i = (j : Int) - 1 ∧ j ≤ 8 ∧ l' ++ beB j n = l ++ enc n ∧ Own w' B A' c' l' ∧ Below B w w')
    (n := room n - 1) (by repeat' constructor) ⟨A21, c21, _, _, rfl, by omega, by omega, by simp [enc], hown21, hb0⟩ ?_
  rintro j fr w2 ⟨A', c', l', i, rfl, hi, hj, hl', hown', hb'⟩
  have hlen : l'.length + j = l.length + room n := by have := congrArg List.length hl'; simpa [beB_length, enc_length] using this
  refine rk_seq ?_
  refine rk_seq ?_
  refine rk_region ?_
  refine wl_p (fun _ => o_move rfl) ?_
  refine wl_p (fun _ => o_ge rfl rfl) ?_
  refine wl_nil ?_
  refine rk_if rfl (fun h => ?_) (fun h => ?_)
  · obtain ⟨q, rfl⟩ := Int.eq_ofNat_of_zero_le h
    obtain rfl : j = q + 1 := by omega
    refine rk_skip ?_
    refine rk_seq ?_
    refine rk_block ?_
    refine rk_region ?_
    refine wl_p (fun _ => o_move rfl) ?_
    refine wl_p (fun _ => o_move rfl) ?_
    refine wl_p (fun _ => o_move rfl) ?_
    refine wl_p (fun _ => o_mul rfl rfl (by omega) (by omega)) ?_
    refine wl_p (fun _ => o_shr rfl rfl (by omega)) ?_
    refine wl_p (fun _ => o_asi (o_convi Tryz.underlying43 Tryz.underlying5 rfl) (byte_shift n q (by omega))) ?_
    refine wl_v (o_lit (is := [0]) (xs := [.tmp 33]) rfl (Tryz.lit8 _ _)) ?_
    have hs2 := hb'.size
    refine wl_app (m := [UInt8.ofNat (n / 256 ^ q)]) Tryz.u8 rfl rfl (hown'.alloc _) rfl rfl (rd_lit _ _ _ rfl) (by simp; omega) (by simp; omega) ?_
    intro A35 c35 w35 hown35 hg35 hk35 hb35
    refine wl_p (fun _ => o_assign rfl) ?_
    refine wl_nil ?_
    refine rk_blk ?_
    refine rk_region ?_
    refine wl_p (fun _ => o_move rfl) ?_
    refine wl_p (fun _ => o_sub rfl rfl (by omega) (by omega)) ?_
    refine wl_p (fun _ => o_assign rfl) ?_
    refine wl_nil ?_
    refine rk_again (m := q) (by repeat' constructor) ⟨A35, c35, _, _, rfl, rfl, by omega, by simpa [beB] using hl', hown35, (hb'.alloc (by omega) _).trans hb35⟩ (by omega)
  · obtain rfl : j = 0 := by omega
    refine rk_exit rfl ?_
    refine rk_seq ?_
    refine rk_region ?_
    refine wl_p (fun _ => o_move rfl) ?_
    refine wl_p (fun _ => o_assign rfl) ?_
    refine wl_nil ?_
    refine ret1 rfl rfl ?_
    simp only [beB, List.append_nil] at hl'
    subst hl'
    exact ⟨A', c', rfl, hown', hb'⟩

theorem C_Block {A X : Option Addr} {l p : List UInt8} (c k : Nat) (w : World) (hr : Rd w A l) (hp : Rd w X p) (hl : l.length + p.length ≤ 140737488355000) :
    CallsR Tryz.prog 119 [.slice A l.length c, .slice X p.length k] w fun v w' => ∃ A' c', v = .slice A' (l ++ enc p.length ++ p).length c' ∧ Own w' w.heap.size A' c' (l ++ enc p.length ++ p) ∧ Below w.heap.size w w' := by
  have hk := room_pos p.length
  have hn : p.length < u64 := by unfold u64; omega
  refine callsR Tryz.func119 rfl rfl (by kernel_rfl) rfl ?_
  refine rk_seq ?_
  refine rk_region ?_
  refine wl_p (fun _ => o_assign rfl) ?_
  refine wl_nil ?_
  refine rk_seq ?_
  refine rk_region ?_
  refine wl_p (fun _ => o_move rfl) ?_
  refine wl_p (fun _ => o_len (t := 39) Tryz.underlying39 rfl) ?_
  refine wl_p (fun _ => o_convu64 (src := 3) (dst := 43) Tryz.underlying3 Tryz.underlying43 rfl (by omega) (by omega)) ?_
  refine wl_p (fun _ => o_assign rfl) ?_
  refine wl_nil ?_
  refine rk_seq ?_
  refine rk_region ?_
  refine wl_p (fun _ => o_move rfl) ?_
  refine wl_p (fun _ => o_move rfl) ?_
  refine wl_call rfl (C_size p.length w hn) ?_
  rintro _ w1 ⟨rfl, rfl⟩
  refine wl_p (fun _ => o_move rfl) ?_
  refine wl_p (fun _ => o_len (t := 39) Tryz.underlying39 rfl) ?_
  refine wl_p (fun _ => o_add rfl rfl (by omega) (by omega)) ?_
  refine wl_call rfl (C_grown c rfl _ w hr (by omega) (by omega)) ?_
  rintro _ w2 ⟨A2, c2, rfl, hown2, hb2⟩
  refine wl_p (fun _ => o_move rfl) ?_
  refine wl_call rfl (C_number c2 p.length w2 hb2.size hown2 hn (by omega)) ?_
  rintro _ w3 ⟨A3, c3, rfl, hown3, hb3⟩
  have hb := hb2.trans hb3
  refine wl_p (fun _ => o_move rfl) ?_
  refine wl_app Tryz.u8 rfl rfl hown3 rfl rfl (hp.below hb) (by simp [enc_length]; omega) hb.size ?_
  intro A4 c4 w4 hown4 hg4 hk4 hb4
  refine wl_p (fun _ => o_assign rfl) ?_
  refine wl_nil ?_
  refine ret1 rfl rfl ?_
  exact ⟨A4, c4, rfl, hown4, hb.trans hb4⟩

end Go.Proofs.YtahkeoegbjopfaaGreat
/-
  Walks of package octet: the reader.
-/
namespace Go.Proofs.YtahkeoegbjopfaaGreat
set_option maxRecDepth 100000
open Go.RowKit

/-- The reader at block g: its bytes, its place, its error. -/
def RdrI (w : World) (g : Nat) (l : List UInt8) (p e : Nat) : Prop :=
  ∃ A c, Blk w g 119 [.pointer (some ⟨g, 0, none⟩), .slice A l.length c, .int .i64 p, .int .i64 e] ∧ Own w 0 A c l ∧ l.length ≤ c ∧ p ≤ l.length ∧ l.length ≤ 140737488355328 ∧ e ≤ 100

theorem blk_cutA (A : Option Addr) (c sz k : Nat) : blk (cutA A c sz k) = blk A := by
  unfold cutA blk
  split
  · rfl
  · cases A <;> simp [block_of_add]
theorem Rd.cut {w : World} {A : Option Addr} {l : List UInt8} (h : Rd w A l) {c k : Nat} (hk : k ≤ l.length) (hc : l.length ≤ c) : Rd w (cutA A c 1 k) (l.drop k) := by
  unfold cutA
  rw [Nat.mul_one]
  exact Rd.drop h hk hc

theorem C_made {g : Nat} {vs : List Value} (w : World) (hB : Blk w g 119 (.pointer (some ⟨g, 0, none⟩) :: vs)) :
    CallsR Tryz.prog 84 [.pointer (some ⟨g, 0, none⟩)] w fun v w' => v = .bool true ∧ w = w' := by
  refine callsR Tryz.func84 rfl rfl (by kernel_rfl) rfl ?_
  refine rk_seq ?_
  refine rk_region ?_
  refine wl_p (fun _ => o_assign rfl) ?_
  refine wl_nil ?_
  refine rk_seq ?_
  refine rk_region ?_
  refine wl_p (fun _ => o_move rfl) ?_
  refine wl_p (fun _ => o_pne_nil (t := 81) Tryz.underlying81 rfl rfl) ?_
  refine wl_p (fun _ => o_move rfl) ?_
  refine wl_p (fun _ => o_move rfl) ?_
  refine wl_p (fun _ => o_nil rfl) ?_
  refine wl_p (fun _ => o_faddr (s := 119) (i := 0) (off := 0) Tryz.underlying119 rfl Tryz.sizeOf81 rfl rfl rfl) ?_
  refine wl_r (o_loadb (t := 81) Tryz.isAgg81 rfl hB (by rfl)) ?_
  refine wl_p (fun _ => o_move rfl) ?_
  refine wl_p (fun _ => o_peq_same (t := 81) Tryz.underlying81 Tryz.sizeOf119 rfl rfl) ?_
  refine wl_p (fun _ => o_pick_t rfl rfl) ?_
  refine wl_p (fun _ => o_assign rfl) ?_
  refine wl_nil ?_
  refine ret1 rfl rfl ?_
  exact ⟨rfl, rfl⟩
theorem C_made_nil (w : World) : CallsR Tryz.prog 84 [.pointer none] w fun v w' => v = .bool false ∧ w = w' := by
  refine callsR Tryz.func84 rfl rfl (by kernel_rfl) rfl ?_
  refine rk_seq ?_
  refine rk_region ?_
  refine wl_p (fun _ => o_assign rfl) ?_
  refine wl_nil ?_
  refine rk_seq ?_
  refine rk_region ?_
  refine wl_p (fun _ => o_move rfl) ?_
  refine wl_p (fun _ => o_pne_nil (t := 81) Tryz.underlying81 rfl rfl) ?_
  refine wl_p (fun _ => o_move rfl) ?_
  refine wl_off ?_
  refine wl_off ?_
  refine wl_off ?_
  refine wl_off ?_
  refine wl_off ?_
  refine wl_off ?_
  refine wl_p (fun _ => o_pick_f rfl rfl) ?_
  refine wl_p (fun _ => o_assign rfl) ?_
  refine wl_nil ?_
  refine ret1 rfl rfl ?_
  exact ⟨rfl, rfl⟩

theorem C_take {g : Nat} {l : List UInt8} {p e : Nat} {m : Int} (n : Nat) (hm : m = n) (w : World) (hR : RdrI w g l p e) :
    CallsR Tryz.prog 67 [.pointer (some ⟨g, 0, none⟩), .int .u64 m] w fun v w' => w.grownBy w' (some g) ∧ w'.heap.size = w.heap.size ∧
      ((e = 0 ∧ n ≤ l.length - p ∧ RdrI w' g l (p + n) 0 ∧ ∃ A' c', v = .tuple #[.slice A' n c', .bool true] ∧ n ≤ c' ∧ Rd w' A' ((l.drop p).take n) ∧ blk A' ≠ some g) ∨
       (v = .tuple #[.slice none 0 0, .bool false] ∧ (e = 0 → l.length - p < n) ∧ RdrI w' g l p (if e = 0 then 5 else e))) := by
  subst hm
  have hR0 := hR
  obtain ⟨A, c, hB, ho, hc, hp, hl, he⟩ := hR
  have hr := ho.rd
  have hA := ho.ne hB (by decide)
  refine callsR Tryz.func67 rfl rfl (by kernel_rfl) rfl ?_
  refine rk_seq ?_
  refine rk_region ?_
  refine wl_p (fun _ => o_assign rfl) ?_
  refine wl_p (fun _ => o_assign rfl) ?_
  refine wl_nil ?_
  refine rk_seq ?_
  refine rk_seq ?_
  refine rk_region ?_
  refine wl_p (fun _ => o_move rfl) ?_
  refine wl_call rfl (C_made w hB) ?_
  rintro _ w8 ⟨rfl, rfl⟩
  refine wl_p (fun _ => o_not rfl) ?_
  refine wl_p (fun _ => o_move rfl) ?_
  refine wl_p (fun _ => o_move rfl) ?_
  refine wl_p (fun _ => o_nil rfl) ?_
  refine wl_p (fun _ => o_faddr (s := 119) (i := 3) (off := 3) Tryz.underlying119 rfl Tryz.sizeOf36 rfl rfl rfl) ?_
  refine wl_r (o_loadb (t := 36) Tryz.isAgg36 rfl hB (by rfl)) ?_
  refine wl_p (fun _ => o_ne rfl rfl) ?_
  refine wl_p (fun _ => o_pick_f rfl rfl) ?_
  refine wl_nil ?_
  refine rk_if rfl (fun h => ?_) (fun h => ?_)
  · refine rk_seq ?_
    refine rk_region ?_
    refine wl_p (fun _ => o_assign rfl) ?_
    refine wl_p (fun _ => o_assign rfl) ?_
    refine wl_nil ?_
    refine ret2 rfl rfl rfl ?_
    have he0 : e ≠ 0 := by intro h0; subst h0; exact h rfl
    exact ⟨World.grownBy.refl _ _, rfl, .inr ⟨rfl, fun h0 => absurd h0 he0, by rw [if_neg he0]; exact hR0⟩⟩
  · have he0 : e = 0 := by omega
    subst he0
    refine rk_skip ?_
    refine rk_seq ?_
    refine rk_seq ?_
    refine rk_draw (id := 3) (none) [0, 0, 2, 4, 8, 16, 0, 64, 128, 256, 544, 1024, 2049] [0, 0, 2, 6, 14, 30, 0, 64, 192, 448, 1022, 2046, 4095] 0 0 [(.p, 0), (.p, 1), (.p, 2), (.p, 3), (.r, 4), (.p, 5), (.p, 6), (.p, 7), (.p, 8), (.r, 9), (.p, 10), (.p, 11), (.p, 12)] (by kernel_rfl) (by kernel_rfl) (by kernel_rfl) (by kernel_rfl) (by kernel_rfl) ?_
    refine wl_p (fun _ => o_move rfl) ?_
    refine wl_p (fun _ => o_move rfl) ?_
    refine wl_p (fun _ => o_nil rfl) ?_
    refine wl_p (fun _ => o_faddr (s := 119) (i := 1) (off := 1) Tryz.underlying119 rfl Tryz.sizeOf39 rfl rfl rfl) ?_
    refine wl_r (o_loadb (t := 39) Tryz.isAgg39 rfl hB (by rfl)) ?_
    refine wl_p (fun _ => o_len (t := 39) Tryz.underlying39 rfl) ?_
    refine wl_p (fun _ => o_move rfl) ?_
    refine wl_p (fun _ => o_nil rfl) ?_
    refine wl_p (fun _ => o_faddr (s := 119) (i := 2) (off := 2) Tryz.underlying119 rfl Tryz.sizeOf3 rfl rfl rfl) ?_
    refine wl_r (o_loadb (t := 3) Tryz.isAgg3 rfl hB (by rfl)) ?_
    refine wl_p (fun _ => o_sub rfl rfl (by omega) (by omega)) ?_
    refine wl_p (fun _ => o_convu64 (src := 3) (dst := 43) Tryz.underlying3 Tryz.underlying43 rfl (by omega) (by omega)) ?_
    refine wl_p (fun _ => o_gt rfl rfl) ?_
    refine wl_nild ?_
    refine rk_if rfl (fun h => ?_) (fun h => ?_)
    · refine rk_seq ?_
      refine rk_region ?_
      refine wl_p (fun _ => o_move rfl) ?_
      refine wl_p (fun _ => o_nil rfl) ?_
      refine wl_p (fun _ => o_faddr (s := 119) (i := 3) (off := 3) Tryz.underlying119 rfl Tryz.sizeOf36 rfl rfl rfl) ?_
      refine wl_store1 Tryz.sizeOf36 rfl rfl rfl hB (by simp) ?_
      intro w1 hB1 hg1 hz1
      refine wl_nil ?_
      refine rk_seq ?_
      refine rk_region ?_
      refine wl_p (fun _ => o_assign rfl) ?_
      refine wl_p (fun _ => o_assign rfl) ?_
      refine wl_nil ?_
      refine ret2 rfl rfl rfl ?_
      have hg := grownBy_trans (grownBy_drew w (some g)) hg1
      exact ⟨hg, hz1, .inr ⟨rfl, fun _ => by omega, A, c, hB1, ho.kept hg (.inr hA), hc, hp, hl, by simp⟩⟩
    · refine rk_skip ?_
      refine rk_seq ?_
      refine rk_region ?_
      refine wl_p (fun _ => o_move rfl) ?_
      refine wl_p (fun _ => o_nil rfl) ?_
      refine wl_p (fun _ => o_faddr (s := 119) (i := 2) (off := 2) Tryz.underlying119 rfl Tryz.sizeOf3 rfl rfl rfl) ?_
      refine wl_r (o_loadb (t := 3) Tryz.isAgg3 rfl hB (by rfl)) ?_
      refine wl_p (fun _ => o_assign rfl) ?_
      refine wl_nil ?_
      refine rk_seq ?_
      refine rk_region ?_
      refine wl_p (fun _ => o_move rfl) ?_
      refine wl_p (fun _ => o_nil rfl) ?_
      refine wl_p (fun _ => o_faddr (s := 119) (i := 2) (off := 2) Tryz.underlying119 rfl Tryz.sizeOf3 rfl rfl rfl) ?_
      refine wl_r (o_loadb (t := 3) Tryz.isAgg3 rfl hB (by rfl)) ?_
      refine wl_p (fun _ => o_move rfl) ?_
      refine wl_p (fun _ => o_convi64 (src := 43) (dst := 3) Tryz.underlying43 Tryz.underlying3 rfl (by omega) (by omega)) ?_
      refine wl_p (fun _ => o_add rfl rfl (by omega) (by omega)) ?_
      refine wl_p (fun _ => o_nil rfl) ?_
      refine wl_p (fun _ => o_faddr (s := 119) (i := 2) (off := 2) Tryz.underlying119 rfl Tryz.sizeOf3 rfl rfl rfl) ?_
      refine wl_store1 Tryz.sizeOf3 rfl rfl rfl hB (by simp) ?_
      intro w1 hB1 hg1 hz1
      have hg := grownBy_trans (grownBy_drew w (some g)) hg1
      refine wl_nil ?_
      refine rk_seq ?_
      refine rk_draw (id := 8) (none) [0, 1, 2, 4, 0, 0, 32, 64, 128, 280, 1023, 2047] [0, 1, 3, 7, 0, 0, 32, 96, 224, 511, 1023, 2047] 0 0 [(.p, 0), (.p, 1), (.p, 2), (.r, 3), (.p, 4), (.p, 5), (.p, 6), (.p, 7), (.r, 8), (.p, 9), (.p, 10), (.p, 11)] (by kernel_rfl) (by kernel_rfl) (by kernel_rfl) (by kernel_rfl) (by kernel_rfl) ?_
      refine wl_p (fun _ => o_move rfl) ?_
      refine wl_p (fun _ => o_nil rfl) ?_
      refine wl_p (fun _ => o_faddr (s := 119) (i := 1) (off := 1) Tryz.underlying119 rfl Tryz.sizeOf39 rfl rfl rfl) ?_
      refine wl_r (o_loadb (t := 39) Tryz.isAgg39 rfl hB1 (by rfl)) ?_
      refine wl_p (fun _ => o_move rfl) ?_
      refine wl_p (fun _ => o_move rfl) ?_
      refine wl_p (fun _ => o_nil rfl) ?_
      refine wl_p (fun _ => o_faddr (s := 119) (i := 2) (off := 2) Tryz.underlying119 rfl Tryz.sizeOf3 rfl rfl rfl) ?_
      refine wl_r (o_loadb (t := 3) Tryz.isAgg3 rfl hB1 (by rfl)) ?_
      refine wl_p (fun _ => o_slice (lo := p) (hi := p + n) Tryz.underlying39 Tryz.sizeOf5 rfl rfl rfl rfl (by omega) (by omega) (by omega)) ?_
      refine wl_p (fun _ => o_assign rfl) ?_
      refine wl_p (fun _ => o_assign rfl) ?_
      refine wl_nild ?_
      refine ret2 rfl rfl rfl ?_
      have hr1 := ((hr.grown hg (.inr hA)).cut (c := c) hp hc).take (k := n) (by simp; omega)
      exact ⟨grownBy_trans hg (grownBy_drew _ _), hz1, .inl ⟨rfl, by omega, ⟨A, c, by simpa using hB1.drew, (ho.kept hg (.inr hA)).drew, hc, by omega, hl, by simp⟩,
        cutA A c 1 p, c - p, by rw [Nat.add_sub_cancel_left], by omega, hr1.drew, by rw [blk_cutA]; exact hA⟩⟩

theorem C_fail {g : Nat} {l : List UInt8} {p e : Nat} {qi ei : Int} (q e' : Nat) (hqi : qi = q) (hei : ei = e') (w : World) (hR : RdrI w g l p e) (hq : q ≤ l.length) (he' : e' ≤ 100) :
    CallsR Tryz.prog 161 [.pointer (some ⟨g, 0, none⟩), .int .i64 qi, .int .i64 ei] w fun v w' => v = .tuple #[] ∧ w.grownBy w' (some g) ∧ w'.heap.size = w.heap.size ∧ RdrI w' g l q e' := by
  subst hqi; subst hei
  obtain ⟨A, c, hB, ho, hc, hp, hl, he⟩ := hR
  have hr := ho.rd
  have hA := ho.ne hB (by decide)
  refine callsR Tryz.func161 rfl rfl (by kernel_rfl) rfl ?_
  refine rk_seq ?_
  refine rk_region ?_
  refine wl_p (fun _ => o_move rfl) ?_
  refine wl_p (fun _ => o_move rfl) ?_
  refine wl_p (fun _ => o_nil rfl) ?_
  refine wl_p (fun _ => o_faddr (s := 119) (i := 2) (off := 2) Tryz.underlying119 rfl Tryz.sizeOf3 rfl rfl rfl) ?_
  refine wl_store1 Tryz.sizeOf3 rfl rfl rfl hB (by simp) ?_
  intro w1 hB1 hg1 hz1
  refine wl_nil ?_
  refine rk_region ?_
  refine wl_p (fun _ => o_move rfl) ?_
  refine wl_p (fun _ => o_move rfl) ?_
  refine wl_p (fun _ => o_nil rfl) ?_
  refine wl_p (fun _ => o_faddr (s := 119) (i := 3) (off := 3) Tryz.underlying119 rfl Tryz.sizeOf36 rfl rfl rfl) ?_
  refine wl_store1 Tryz.sizeOf36 rfl rfl rfl hB1 (by simp) ?_
  intro w2 hB2 hg2 hz2
  have hg := grownBy_trans hg1 hg2
  refine wl_nil ?_
  refine end0 rfl ?_
  exact ⟨rfl, hg, by omega, A, c, by simpa using hB2, ho.kept hg (.inr hA), hc, hq, hl, he'⟩

theorem C_lz8 (c : UInt8) (w : World) : CallsR Tryz.prog 180 [.int .u8 (bits .xor .u8 255 c.toNat)] w fun v w' => v = .int .i64 (lead c - 1) ∧ w = w' :=
  ⟨⟨_, Tryz.func180, rfl, by kernel_rfl⟩, by
    have h1 : bits .xor .u8 255 (c.toNat : Int) = ((255 - c.toNat : Nat) : Int) := by
      have : ∀ c : Fin 256, bits .xor .u8 255 (c.val : Int) = ((255 - c.val : Nat) : Int) := by decide +kernel
      exact this ⟨c.toNat, c.toNat_lt⟩
    have h2 : 8 - (Lib.bitLen (255 - c.toNat) : Int) = lead c - 1 := by
      have : ∀ c : Fin 256, 8 - (Lib.bitLen (255 - c.val) : Int) = lead (UInt8.ofNat c.val) - 1 := by decide +kernel
      simpa using this ⟨c.toNat, c.toNat_lt⟩
    rw [h1]
    refine (Tryz.bits_LeadingZeros8 _ w (by omega) (by omega)).mono fun _ _ h => ⟨_, h.1, ?_, h.2.symm⟩
    rw [show (((255 - c.toNat : Nat) : Int)).toNat = 255 - c.toNat from by omega, h2]⟩

set_option maxHeartbeats 1000000 in
theorem C_RNumber {g : Nat} {l : List UInt8} {p e : Nat} (w : World) (hR : RdrI w g l p e) :
    CallsR Tryz.prog 160 [.pointer (some ⟨g, 0, none⟩)] w fun v w' => v = .int .u64 (rNumber (l.drop p, e)).1 ∧ w.grownBy w' (some g) ∧
      ∃ p', RdrI w' g l p' (rNumber (l.drop p, e)).2.2 ∧ (rNumber (l.drop p, e)).2.1 = l.drop p' := by
  refine callsR Tryz.func160 rfl rfl (by kernel_rfl) rfl ?_
  refine rk_seq ?_
  refine rk_region ?_
  refine wl_p (fun _ => o_assign rfl) ?_
  refine wl_nil ?_
  refine rk_seq ?_
  refine rk_region ?_
  refine wl_p (fun _ => o_move rfl) ?_
  refine wl_call rfl (C_take 1 rfl w hR) ?_
  rintro _ w13 ⟨hg13, hz13, h | h⟩
  · obtain ⟨rfl, h1, hR13, A13, c13, rfl, hc13, hr13, hA13⟩ := h
    obtain ⟨c0, t, hdt⟩ : ∃ c0 t, l.drop p = c0 :: t := by
      cases hd : l.drop p with
      | nil => have := congrArg List.length hd; simp at this; omega
      | cons c0 t => exact ⟨c0, t, rfl⟩
    rw [hdt] at hr13 ⊢
    obtain ⟨A, c, hB, ho, hc, hp, hl, he⟩ := hR13
    have hlen : t.length + 1 = l.length - p := by have := congrArg List.length hdt; simpa using this.symm
    have hdt1 : l.drop (p + 1) = t := by rw [← List.drop_drop, hdt]; rfl
    obtain ⟨b, o, rfl, hb, hcell⟩ := hr13.at_ (by simp)
    have hc0 : w13.cell? ⟨b, o + 0, none⟩ = some (.int .u8 c0.toNat) := by simpa using hcell 0 (by simp)
    have hk := lead_bd c0
    refine wl_p (fun _ => o_move rfl) ?_
    refine wl_p (fun _ => o_ext20 rfl) ?_
    refine wl_p (fun _ => o_ext21 rfl) ?_
    refine wl_p (fun _ => o_assign rfl) ?_
    refine wl_p (fun _ => o_assign rfl) ?_
    refine wl_nil ?_
    refine rk_seq ?_
    refine rk_seq ?_
    refine rk_region ?_
    refine wl_p (fun _ => o_move rfl) ?_
    refine wl_p (fun _ => o_not rfl) ?_
    refine wl_nil ?_
    refine rk_false rfl ?_
    refine rk_skip ?_
    refine rk_seq ?_
    refine rk_region ?_
    refine wl_p (fun _ => o_move rfl) ?_
    refine wl_p (fun _ => o_nil rfl) ?_
    refine wl_p (fun _ => o_faddr (s := 119) (i := 2) (off := 2) Tryz.underlying119 rfl Tryz.sizeOf3 rfl rfl rfl) ?_
    refine wl_r (o_loadb (t := 3) Tryz.isAgg3 rfl hB (by rfl)) ?_
    refine wl_p (fun _ => o_sub rfl rfl (by omega) (by omega)) ?_
    refine wl_p (fun _ => o_assign rfl) ?_
    refine wl_nil ?_
    refine rk_seq ?_
    refine rk_region ?_
    refine wl_p (fun _ => o_move rfl) ?_
    refine wl_p (fun _ => o_iaddr1 (j := 0) Tryz.underlying39 Tryz.sizeOf5 rfl rfl rfl (by omega)) ?_
    refine wl_r (o_load Tryz.isAgg5 rfl hc0) ?_
    refine wl_p (fun _ => o_compl8 rfl) ?_
    refine wl_call rfl (C_lz8 c0 w13) ?_
    rintro _ w27 ⟨rfl, rfl⟩
    refine wl_p (fun _ => o_asi (b := (lead c0 : Int)) (o_add rfl rfl (by omega) (by omega)) (by omega)) ?_
    refine wl_p (fun _ => o_assign rfl) ?_
    refine wl_nil ?_
    refine rk_seq ?_
    refine rk_region ?_
    refine wl_p (fun _ => o_move rfl) ?_
    refine wl_p (fun _ => o_move rfl) ?_
    refine wl_p (fun _ => o_sub rfl rfl (by omega) (by omega)) ?_
    refine wl_p (fun _ => o_convu64 (src := 3) (dst := 43) Tryz.underlying3 Tryz.underlying43 rfl (by omega) (by omega)) ?_
    refine wl_call rfl (C_take (lead c0 - 1) (by omega) w13 ⟨A, c, hB, ho, hc, hp, hl, he⟩) ?_
    rintro _ w34 ⟨hg34, hz34, h | h⟩
    · obtain ⟨-, h34, hR34, A34, c34, rfl, hc34, hr34, hA34⟩ := h
      rw [hdt1] at hr34
      have htk : (t.take (lead c0 - 1)).length = lead c0 - 1 := by simp; omega
      have hc34' : w34.cell? ⟨b, o + 0, none⟩ = some (.int .u8 c0.toNat) := by
        have := (hr13.grown hg34 (.inr hA13)).at_ (by simp)
        obtain ⟨b', o', e, _, h⟩ := this
        injection e with e; injection e with e1 e2; subst e1; subst e2
        simpa using h 0 (by simp)
      refine wl_p (fun _ => o_move rfl) ?_
      refine wl_p (fun _ => o_ext20 rfl) ?_
      refine wl_p (fun _ => o_ext21 rfl) ?_
      refine wl_p (fun _ => o_assign rfl) ?_
      refine wl_p (fun _ => o_assign rfl) ?_
      refine wl_nil ?_
      refine rk_seq ?_
      refine rk_seq ?_
      refine rk_region ?_
      refine wl_p (fun _ => o_move rfl) ?_
      refine wl_p (fun _ => o_not rfl) ?_
      refine wl_nil ?_
      refine rk_false rfl ?_
      refine rk_skip ?_
      refine rk_seq ?_
      refine rk_draw (id := 10) (none) [0, 1, 2, 0, 8, 20, 32, 127] [0, 1, 3, 0, 8, 31, 63, 127] 0 0 [(.p, 0), (.p, 1), (.r, 2), (.p, 3), (.p, 4), (.p, 5), (.p, 6), (.p, 7)] (by kernel_rfl) (by kernel_rfl) (by kernel_rfl) (by kernel_rfl) (by kernel_rfl) ?_
      refine wl_p (fun _ => o_move rfl) ?_
      refine wl_p (fun _ => o_iaddr1 (j := 0) Tryz.underlying39 Tryz.sizeOf5 rfl rfl rfl (by omega)) ?_
      refine wl_r (o_load Tryz.isAgg5 rfl hc34') ?_
      refine wl_p (fun _ => o_move rfl) ?_
      refine wl_p (fun _ => o_shr rfl rfl (by omega)) ?_
      refine wl_p (fun _ => o_asi (o_and rfl rfl) (mask_byte c0)) ?_
      have hmk : c0.toNat % 2 ^ (8 - lead c0) < 256 := Nat.lt_of_le_of_lt (Nat.mod_le _ _) c0.toNat_lt
      refine wl_p (fun _ => o_convu64 (src := 5) (dst := 43) Tryz.underlying5 Tryz.underlying43 rfl (by omega) (by omega)) ?_
      refine wl_p (fun _ => o_assign rfl) ?_
      refine wl_nild ?_
      refine rk_seq ?_
      refine rk_seq ?_
      refine rk_region ?_
      refine wl_p (fun _ => o_move rfl) ?_
      refine wl_p (fun _ => o_len (t := 39) Tryz.underlying39 rfl) ?_
      refine wl_p (fun _ => o_move rfl) ?_
      refine wl_nil ?_
      refine rk_block ?_
      refine rk_loop (fun m fr w' => ∃ j v q, fr = [(0, .pointer (some ⟨g, 0, none⟩)), (5, .int .i64 q), (6, .int .i64 (lead c0)), (8, .int .u64 v), (53, .slice A34 (lead c0 - 1) c34), (54, .int .i64 (lead c0 - 1 : Nat)), (55, .int .i64 (j : Nat))] ∧
        q = (p : Int) ∧ m + j = lead c0 - 1 ∧ v = (beVal (c0.toNat % 2 ^ (8 - lead c0)) (t.take j) : Int) ∧ w' = w34.drew) (n := lead c0 - 1) (by repeat' constructor) ⟨0, _, _, rfl, by omega, by omega, by simp [beVal], rfl⟩ ?_
      rintro m fr w' ⟨j, v, q, rfl, hq, hm, hv, rfl⟩
      refine rk_seq ?_
      refine rk_region ?_
      refine wl_p (fun _ => o_lt rfl rfl) ?_
      refine wl_nil ?_
      refine rk_seq ?_
      refine rk_if rfl (fun h => ?_) (fun h => ?_)
      · have hjt : j < t.length := by omega
        obtain ⟨b2, o2, rfl, -, hcell2⟩ := hr34.at_ (by intro e; rw [e] at htk; simp at htk; omega)
        have hcj : w34.drew.cell? ⟨b2, o2 + j, none⟩ = some (.int .u8 t[j].toNat) := by
          have := hcell2 j (by omega)
          rw [List.getElem_take] at this
          exact this
        have hlt := beVal_u64 c0 (t.take (j + 1)) (by rw [List.length_take]; omega)
        rw [List.take_succ_eq_append_getElem hjt, beVal_snoc] at hlt
        have h256 := Nat.lt_of_le_of_lt (Nat.le_add_right _ _) hlt
        subst hv
        refine rk_skip ?_
        refine rk_seq ?_
        refine rk_block ?_
        refine rk_seq ?_
        refine rk_region ?_
        refine wl_p (fun _ => o_iaddr1 (j := j) Tryz.underlying39 Tryz.sizeOf5 rfl rfl rfl (by omega)) ?_
        refine wl_r (o_load Tryz.isAgg5 rfl hcj) ?_
        refine wl_p (fun _ => o_assign rfl) ?_
        refine wl_nil ?_
        refine rk_region ?_
        refine wl_p (fun _ => o_move rfl) ?_
        refine wl_p (fun _ => o_shl rfl rfl (by omega)) ?_
        refine wl_p (fun _ => o_move rfl) ?_
        refine wl_p (fun _ => o_convu64 (src := 5) (dst := 43) Tryz.underlying5 Tryz.underlying43 rfl (by omega) (by omega)) ?_
        refine wl_p (fun _ => o_asi (o_or rfl rfl) (join_byte _ t[j] h256)) ?_
        refine wl_p (fun _ => o_assign rfl) ?_
        refine wl_nil ?_
        refine rk_blk ?_
        refine rk_region ?_
        refine wl_p (fun _ => o_add rfl rfl (by omega) (by omega)) ?_
        refine wl_p (fun _ => o_move rfl) ?_
        refine wl_nil ?_
        exact rk_again (m := m - 1) (by repeat' constructor) ⟨j + 1, _, _, rfl, hq, by omega, by rw [List.take_succ_eq_append_getElem hjt, beVal_snoc], rfl⟩ (by omega)
      · obtain rfl : j = lead c0 - 1 := by omega
        subst hv
        have hlt := beVal_u64 c0 (t.take (lead c0 - 1)) (by omega)
        have hnl : ¬ t.length + 1 < lead c0 := by omega
        have hg2 := grownBy_trans hg13 (grownBy_trans hg34 (grownBy_drew w34 _))
        refine rk_exit rfl ?_
        refine rk_seq ?_
        refine rk_seq ?_
        refine rk_region ?_
        refine wl_p (fun _ => o_move rfl) ?_
        refine wl_call rfl (C_size _ _ hlt) ?_
        rintro _ w66 ⟨rfl, rfl⟩
        refine wl_p (fun _ => o_move rfl) ?_
        refine wl_p (fun _ => o_ne rfl rfl) ?_
        refine wl_nil ?_
        refine rk_if rfl (fun h => ?_) (fun h => ?_)
        · refine rk_seq ?_
          refine rk_region ?_
          refine wl_p (fun _ => o_move rfl) ?_
          refine wl_p (fun _ => o_move rfl) ?_
          refine wl_call rfl (C_fail p 4 hq rfl _ hR34 (by omega) (by omega)) ?_
          rintro _ w71 ⟨rfl, hg71, hz71, hR71⟩
          refine wl_nil ?_
          refine rk_seq ?_
          refine rk_region ?_
          refine wl_p (fun _ => o_assign rfl) ?_
          refine wl_nil ?_
          refine ret1 rfl rfl ?_
          rw [rNumber_bad hnl (fun e => h (by rw [e]))]
          exact ⟨rfl, grownBy_trans hg2 hg71, p, hR71, hdt.symm⟩
        · refine rk_skip ?_
          refine rk_seq ?_
          refine rk_region ?_
          refine wl_p (fun _ => o_move rfl) ?_
          refine wl_p (fun _ => o_assign rfl) ?_
          refine wl_nil ?_
          refine ret1 rfl rfl ?_
          rw [rNumber_ok hnl (by omega)]
          exact ⟨rfl, hg2, _, hR34, by rw [← List.drop_drop, hdt1]⟩
    · obtain ⟨rfl, h34, hR34⟩ := h
      rw [if_pos rfl] at hR34
      have hR34' := hR34
      obtain ⟨A, c, hB, -⟩ := hR34'
      refine wl_p (fun _ => o_move rfl) ?_
      refine wl_p (fun _ => o_ext20 rfl) ?_
      refine wl_p (fun _ => o_ext21 rfl) ?_
      refine wl_p (fun _ => o_assign rfl) ?_
      refine wl_p (fun _ => o_assign rfl) ?_
      refine wl_nil ?_
      refine rk_seq ?_
      refine rk_seq ?_
      refine rk_region ?_
      refine wl_p (fun _ => o_move rfl) ?_
      refine wl_p (fun _ => o_not rfl) ?_
      refine wl_nil ?_
      refine rk_true rfl ?_
      refine rk_seq ?_
      refine rk_region ?_
      refine wl_p (fun _ => o_move rfl) ?_
      refine wl_p (fun _ => o_move rfl) ?_
      refine wl_p (fun _ => o_move rfl) ?_
      refine wl_p (fun _ => o_nil rfl) ?_
      refine wl_p (fun _ => o_faddr (s := 119) (i := 3) (off := 3) Tryz.underlying119 rfl Tryz.sizeOf36 rfl rfl rfl) ?_
      refine wl_r (o_loadb (t := 36) Tryz.isAgg36 rfl hB (by rfl)) ?_
      refine wl_call rfl (C_fail p 5 (by omega) rfl w34 hR34 (by omega) (by omega)) ?_
      rintro _ w45 ⟨rfl, hg45, hz45, hR45⟩
      refine wl_nil ?_
      refine rk_seq ?_
      refine rk_region ?_
      refine wl_p (fun _ => o_assign rfl) ?_
      refine wl_nil ?_
      refine ret1 rfl rfl ?_
      have := h34 rfl
      rw [rNumber_more (by omega)]
      exact ⟨rfl, grownBy_trans hg13 (grownBy_trans hg34 hg45), p, hR45, hdt.symm⟩
  · obtain ⟨rfl, h1, hR13⟩ := h
    refine wl_p (fun _ => o_move rfl) ?_
    refine wl_p (fun _ => o_ext20 rfl) ?_
    refine wl_p (fun _ => o_ext21 rfl) ?_
    refine wl_p (fun _ => o_assign rfl) ?_
    refine wl_p (fun _ => o_assign rfl) ?_
    refine wl_nil ?_
    refine rk_seq ?_
    refine rk_seq ?_
    refine rk_region ?_
    refine wl_p (fun _ => o_move rfl) ?_
    refine wl_p (fun _ => o_not rfl) ?_
    refine wl_nil ?_
    refine rk_true rfl ?_
    refine rk_seq ?_
    refine rk_region ?_
    refine wl_p (fun _ => o_assign rfl) ?_
    refine wl_nil ?_
    refine ret1 rfl rfl ?_
    by_cases he : e = 0
    · subst he
      have hd : l.drop p = [] := List.drop_eq_nil_of_le (by have := h1 rfl; omega)
      exact ⟨by rw [hd, rNumber_nil]; rfl, hg13, p, by rw [hd, rNumber_nil]; exact hR13, by rw [hd, rNumber_nil]⟩
    · rw [if_neg he] at hR13
      exact ⟨by rw [rNumber_err he]; rfl, hg13, p, by rw [rNumber_err he]; exact hR13, by rw [rNumber_err he]⟩

theorem RdrI.below {w w' : World} {g : Nat} {l : List UInt8} {p e : Nat} (h : RdrI w g l p e) (hb : Below w.heap.size w w') : RdrI w' g l p e := by
  obtain ⟨A, c, hB, ho, h⟩ := h
  exact ⟨A, c, hB.under hb, ho.below hb, h⟩
theorem RdrI.grown {w w' : World} {g k t : Nat} {cs : List Value} {l : List UInt8} {p e : Nat} (h : RdrI w g l p e) (hg : w.grownBy w' (some k)) (hB : Blk w k t cs) (ht : t ≠ 5) (hk : k ≠ g) : RdrI w' g l p e := by
  obtain ⟨A, c, hB', ho, h⟩ := h
  exact ⟨A, c, hB'.grown hg (by intro e; injection e with e; exact hk e.symm), ho.kept hg (.inr (ho.ne hB ht)), h⟩
theorem RdrI.drew {w : World} {g : Nat} {l : List UInt8} {p e : Nat} (h : RdrI w g l p e) : RdrI w.drew g l p e := h
theorem RdrI.blk' {w : World} {g : Nat} {l : List UInt8} {p e : Nat} (h : RdrI w g l p e) : ∃ A c, Blk w g 119 [.pointer (some ⟨g, 0, none⟩), .slice A l.length c, .int .i64 p, .int .i64 e] ∧ p ≤ l.length ∧ l.length ≤ 140737488355328 ∧ e ≤ 100 := by
  obtain ⟨A, c, hB, ho, hc, hp, hl, he⟩ := h
  exact ⟨A, c, hB, hp, hl, he⟩

theorem C_RBlock {g : Nat} {l : List UInt8} {p e : Nat} (w : World) (hR : RdrI w g l p e) :
    CallsR Tryz.prog 120 [.pointer (some ⟨g, 0, none⟩)] w fun v w' => w.grownBy w' (some g) ∧ (∃ A' c', v = .slice A' (rBlock (l.drop p, e)).1.length c' ∧ Own w' w.heap.size A' c' (rBlock (l.drop p, e)).1) ∧
      ∃ p', RdrI w' g l p' (rBlock (l.drop p, e)).2.2 ∧ (rBlock (l.drop p, e)).2.1 = l.drop p' := by
  obtain ⟨A, c, hB, hp, hl, he⟩ := hR.blk'
  refine callsR Tryz.func120 rfl rfl (by kernel_rfl) rfl ?_
  refine rk_seq ?_
  refine rk_region ?_
  refine wl_p (fun _ => o_assign rfl) ?_
  refine wl_nil ?_
  refine rk_seq ?_
  refine rk_seq ?_
  refine rk_region ?_
  refine wl_p (fun _ => o_move rfl) ?_
  refine wl_call rfl (C_made w hB) ?_
  rintro _ w1 ⟨rfl, rfl⟩
  refine wl_p (fun _ => o_not rfl) ?_
  refine wl_nil ?_
  refine rk_false rfl ?_
  refine rk_skip ?_
  refine rk_seq ?_
  refine rk_region ?_
  refine wl_p (fun _ => o_move rfl) ?_
  refine wl_p (fun _ => o_nil rfl) ?_
  refine wl_p (fun _ => o_faddr (s := 119) (i := 2) (off := 2) Tryz.underlying119 rfl Tryz.sizeOf3 rfl rfl rfl) ?_
  refine wl_r (o_loadb (t := 3) Tryz.isAgg3 rfl hB (by rfl)) ?_
  refine wl_p (fun _ => o_assign rfl) ?_
  refine wl_nil ?_
  refine rk_seq ?_
  refine rk_region ?_
  refine wl_p (fun _ => o_move rfl) ?_
  refine wl_call rfl (C_RNumber w hR) ?_
  rintro _ w2 ⟨rfl, hg2, p2, hR2, hs2⟩
  refine wl_p (fun _ => o_assign rfl) ?_
  refine wl_nil ?_
  refine rk_seq ?_
  refine rk_region ?_
  refine wl_p (fun _ => o_move rfl) ?_
  refine wl_p (fun _ => o_move rfl) ?_
  refine wl_call rfl (C_take _ rfl w2 hR2) ?_
  rintro _ w3 ⟨hg3, hz3, h | h⟩
  · obtain ⟨h0, h3, hR3, A3, c3, rfl, hc3, hr3, hA3⟩ := h
    have hb1 : (rBlock (l.drop p, e)) = ((l.drop p2).take (rNumber (l.drop p, e)).1, ((l.drop p2).drop (rNumber (l.drop p, e)).1, 0)) := by
      unfold rBlock
      rw [if_neg (by simp [h0]), if_neg (by rw [hs2, List.length_drop]; omega), hs2]
    have hlen : (rNumber (l.drop p, e)).1 = ((l.drop p2).take (rNumber (l.drop p, e)).1).length := by simp; omega
    rw [hb1]
    generalize (rNumber (l.drop p, e)).1 = n at *
    refine wl_p (fun _ => o_move rfl) ?_
    refine wl_p (fun _ => o_ext20 rfl) ?_
    refine wl_p (fun _ => o_ext21 rfl) ?_
    refine wl_p (fun _ => o_assign rfl) ?_
    refine wl_p (fun _ => o_assign rfl) ?_
    refine wl_nil ?_
    refine rk_seq ?_
    refine rk_seq ?_
    refine rk_region ?_
    refine wl_p (fun _ => o_move rfl) ?_
    refine wl_p (fun _ => o_not rfl) ?_
    refine wl_nil ?_
    refine rk_false rfl ?_
    refine rk_skip ?_
    refine rk_seq ?_
    refine rk_region ?_
    refine wl_p (fun _ => o_move rfl) ?_
    refine wl_call rfl (C_grown c3 hlen 0 w3 hr3 (by omega) (by rw [← hlen]; omega)) ?_
    rintro _ w4 ⟨A4, c4, rfl, hown4, hb4⟩
    refine wl_p (fun _ => o_assign rfl) ?_
    refine wl_nil ?_
    refine ret1 rfl rfl ?_
    have hgA := grownBy_trans hg2 hg3
    exact ⟨grownBy_trans hgA (grownBy_of_below hb4 _), ⟨A4, c4, rfl, hown4.base (Nat.le_trans hg2.size hg3.size)⟩, p2 + n, hR3.below hb4, by rw [List.drop_drop]⟩
  · obtain ⟨rfl, h3, hR3⟩ := h
    have hb1 : (rBlock (l.drop p, e)) = ([], (l.drop p, if (rNumber (l.drop p, e)).2.2 = 0 then 5 else (rNumber (l.drop p, e)).2.2)) := by
      unfold rBlock
      by_cases h0 : (rNumber (l.drop p, e)).2.2 = 0
      · rw [if_neg (by simp [h0]), if_pos (by rw [hs2, List.length_drop]; exact h3 h0), if_pos h0]
      · rw [if_pos h0, if_neg h0]
    rw [hb1]
    generalize (if (rNumber (l.drop p, e)).2.2 = 0 then 5 else (rNumber (l.drop p, e)).2.2) = e3 at *
    obtain ⟨A3, c3, hB3, hp3, hl3, he3⟩ := hR3.blk'
    refine wl_p (fun _ => o_move rfl) ?_
    refine wl_p (fun _ => o_ext20 rfl) ?_
    refine wl_p (fun _ => o_ext21 rfl) ?_
    refine wl_p (fun _ => o_assign rfl) ?_
    refine wl_p (fun _ => o_assign rfl) ?_
    refine wl_nil ?_
    refine rk_seq ?_
    refine rk_seq ?_
    refine rk_region ?_
    refine wl_p (fun _ => o_move rfl) ?_
    refine wl_p (fun _ => o_not rfl) ?_
    refine wl_nil ?_
    refine rk_true rfl ?_
    refine rk_seq ?_
    refine rk_region ?_
    refine wl_p (fun _ => o_move rfl) ?_
    refine wl_p (fun _ => o_move rfl) ?_
    refine wl_p (fun _ => o_move rfl) ?_
    refine wl_p (fun _ => o_nil rfl) ?_
    refine wl_p (fun _ => o_faddr (s := 119) (i := 3) (off := 3) Tryz.underlying119 rfl Tryz.sizeOf36 rfl rfl rfl) ?_
    refine wl_r (o_loadb (t := 36) Tryz.isAgg36 rfl hB3 (by rfl)) ?_
    refine wl_call rfl (C_fail p e3 rfl rfl w3 hR3 hp he3) ?_
    rintro _ w4 ⟨rfl, hg4, hz4, hR4⟩
    refine wl_nil ?_
    refine rk_seq ?_
    refine rk_region ?_
    refine wl_p (fun _ => o_assign rfl) ?_
    refine wl_nil ?_
    refine ret1 rfl rfl ?_
    exact ⟨grownBy_trans (grownBy_trans hg2 hg3) hg4, ⟨none, 0, rfl, Own.nil _ _⟩, p, hR4, rfl⟩

theorem C_RWord {g : Nat} {l : List UInt8} {p e : Nat} (size : Int) (w : World) (hR : RdrI w g l p e) :
    CallsR Tryz.prog 39 [.pointer (some ⟨g, 0, none⟩), .int .i64 size] w fun v w' => v = .int .u64 (rWord size (l.drop p, e)).1 ∧ w.grownBy w' (some g) ∧
      ∃ p', RdrI w' g l p' (rWord size (l.drop p, e)).2.2 ∧ (rWord size (l.drop p, e)).2.1 = l.drop p' := by
  obtain ⟨hk1, hk2, hk3⟩ := clampN_bd size
  refine callsR Tryz.func39 rfl rfl (by kernel_rfl) rfl ?_
  refine rk_seq ?_
  refine rk_region ?_
  refine wl_p (fun _ => o_assign rfl) ?_
  refine wl_nil ?_
  refine rk_seq ?_
  refine rk_region ?_
  refine wl_p (fun _ => o_move rfl) ?_
  refine wl_p (fun _ => o_move rfl) ?_
  refine wl_call rfl (C_clamp size w) ?_
  rintro _ w1 ⟨rfl, rfl⟩
  rw [hk3]
  refine wl_p (fun _ => o_convu64 (src := 3) (dst := 43) Tryz.underlying3 Tryz.underlying43 rfl (by omega) (by omega)) ?_
  refine wl_call rfl (C_take (clampN size) rfl w hR) ?_
  rintro _ w3 ⟨hg3, hz3, h | h⟩
  · obtain ⟨rfl, h3, hR3, A3, c3, rfl, hc3, hr3, hA3⟩ := h
    have hb1 : rTake (clampN size) (l.drop p, 0) = ((l.drop p).take (clampN size), ((l.drop p).drop (clampN size), 0)) := by
      unfold rTake
      rw [if_neg (by simp), if_neg (by simp; omega)]
    unfold rWord
    rw [hb1]
    have hlen : ((l.drop p).take (clampN size)).length = clampN size := by simp; omega
    generalize (l.drop p).take (clampN size) = b at *
    refine wl_p (fun _ => o_move rfl) ?_
    refine wl_p (fun _ => o_ext20 rfl) ?_
    refine wl_p (fun _ => o_ext21 rfl) ?_
    refine wl_p (fun _ => o_assign rfl) ?_
    refine wl_p (fun _ => o_assign rfl) ?_
    refine wl_nil ?_
    refine rk_seq ?_
    refine rk_seq ?_
    refine rk_region ?_
    refine wl_p (fun _ => o_move rfl) ?_
    refine wl_p (fun _ => o_not rfl) ?_
    refine wl_nil ?_
    refine rk_false rfl ?_
    refine rk_skip ?_
    refine rk_seq ?_
    refine rk_region ?_
    refine wl_p (fun _ => o_assign rfl) ?_
    refine wl_nil ?_
    refine rk_seq ?_
    refine rk_seq ?_
    refine rk_region ?_
    refine wl_p (fun _ => o_move rfl) ?_
    refine wl_p (fun _ => o_len (t := 39) Tryz.underlying39 rfl) ?_
    refine wl_p (fun _ => o_move rfl) ?_
    refine wl_nil ?_
    refine rk_block ?_
    refine rk_loop (fun m fr w' => ∃ j v, fr = [(7, .int .u64 v), (20, .slice A3 (clampN size) c3), (21, .int .i64 (clampN size : Nat)), (22, .int .i64 (j : Nat))] ∧ m + j = clampN size ∧ v = leVal (b.take j) ∧ w' = w3) (n := clampN size) (by repeat' constructor)
      ⟨0, _, rfl, by omega, by simp [leVal], rfl⟩ ?_
    rintro m fr w' ⟨j, v, rfl, hm, rfl, rfl⟩
    refine rk_seq ?_
    refine rk_region ?_
    refine wl_p (fun _ => o_lt rfl rfl) ?_
    refine wl_nil ?_
    refine rk_seq ?_
    refine rk_if rfl (fun h => ?_) (fun h => ?_)
    · have hjb : j < b.length := by omega
      obtain ⟨b2, o2, rfl, -, hcell2⟩ := hr3.at_ (by intro e; rw [e] at hlen; simp at hlen; omega)
      have hcj := hcell2 j hjb
      have htl : (b.take j).length = j := by simp; omega
      have hby := b[j].toNat_lt
      refine rk_skip ?_
      refine rk_seq ?_
      refine rk_block ?_
      refine rk_seq ?_
      refine rk_region ?_
      refine wl_p (fun _ => o_move rfl) ?_
      refine wl_p (fun _ => o_iaddr1 (j := j) Tryz.underlying39 Tryz.sizeOf5 rfl rfl rfl (by omega)) ?_
      refine wl_r (o_load Tryz.isAgg5 rfl hcj) ?_
      refine wl_p (fun _ => o_assign rfl) ?_
      refine wl_p (fun _ => o_assign rfl) ?_
      refine wl_nil ?_
      refine rk_region ?_
      refine wl_p (fun _ => o_move rfl) ?_
      refine wl_p (fun _ => o_move rfl) ?_
      refine wl_p (fun _ => o_convu64 (src := 5) (dst := 43) Tryz.underlying5 Tryz.underlying43 rfl (by omega) (by omega)) ?_
      refine wl_p (fun _ => o_move rfl) ?_
      refine wl_p (fun _ => o_mul rfl rfl (by omega) (by omega)) ?_
      refine wl_p (fun _ => o_shl rfl rfl (by omega)) ?_
      refine wl_p (fun _ => o_asi (b := (leVal (b.take (j + 1)) : Int)) (o_or rfl rfl) (by
        rw [List.take_succ_eq_append_getElem hjb, ← or_byte (b.take j) b[j] (by omega), htl])) ?_
      refine wl_p (fun _ => o_assign rfl) ?_
      refine wl_nil ?_
      refine rk_blk ?_
      refine rk_region ?_
      refine wl_p (fun _ => o_add rfl rfl (by omega) (by omega)) ?_
      refine wl_p (fun _ => o_move rfl) ?_
      refine wl_nil ?_
      exact rk_again (m := m - 1) (by repeat' constructor) ⟨j + 1, _, rfl, by omega, rfl, rfl⟩ (by omega)
    · obtain rfl : j = clampN size := by omega
      rw [List.take_of_length_le (Nat.le_of_eq hlen)]
      refine rk_exit rfl ?_
      refine rk_seq ?_
      refine rk_region ?_
      refine wl_p (fun _ => o_move rfl) ?_
      refine wl_p (fun _ => o_assign rfl) ?_
      refine wl_nil ?_
      refine ret1 rfl rfl ?_
      exact ⟨rfl, hg3, _, hR3, by rw [List.drop_drop]⟩
  · obtain ⟨rfl, h3, hR3⟩ := h
    have hb1 : rTake (clampN size) (l.drop p, e) = ([], (l.drop p, if e = 0 then 5 else e)) := by
      unfold rTake
      by_cases he : e = 0
      · rw [if_neg (by simp [he]), if_pos (by simp; exact h3 he), if_pos he]
      · rw [if_pos he, if_neg he]
    unfold rWord
    rw [hb1]
    refine wl_p (fun _ => o_move rfl) ?_
    refine wl_p (fun _ => o_ext20 rfl) ?_
    refine wl_p (fun _ => o_ext21 rfl) ?_
    refine wl_p (fun _ => o_assign rfl) ?_
    refine wl_p (fun _ => o_assign rfl) ?_
    refine wl_nil ?_
    refine rk_seq ?_
    refine rk_seq ?_
    refine rk_region ?_
    refine wl_p (fun _ => o_move rfl) ?_
    refine wl_p (fun _ => o_not rfl) ?_
    refine wl_nil ?_
    refine rk_true rfl ?_
    refine rk_seq ?_
    refine rk_region ?_
    refine wl_p (fun _ => o_assign rfl) ?_
    refine wl_nil ?_
    refine ret1 rfl rfl ?_
    exact ⟨rfl, hg3, p, hR3, rfl⟩

theorem C_RErr {g : Nat} {l : List UInt8} {p e : Nat} (w : World) (hR : RdrI w g l p e) :
    CallsR Tryz.prog 41 [.pointer (some ⟨g, 0, none⟩)] w fun v w' => v = .int .i64 e ∧ w = w' := by
  obtain ⟨A, c, hB, hp, hl, he⟩ := hR.blk'
  refine callsR Tryz.func41 rfl rfl (by kernel_rfl) rfl ?_
  refine rk_seq ?_
  refine rk_region ?_
  refine wl_p (fun _ => o_assign rfl) ?_
  refine wl_nil ?_
  refine rk_seq ?_
  refine rk_seq ?_
  refine rk_region ?_
  refine wl_p (fun _ => o_move rfl) ?_
  refine wl_call rfl (C_made w hB) ?_
  rintro _ w1 ⟨rfl, rfl⟩
  refine wl_p (fun _ => o_not rfl) ?_
  refine wl_nil ?_
  refine rk_false rfl ?_
  refine rk_skip ?_
  refine rk_seq ?_
  refine rk_region ?_
  refine wl_p (fun _ => o_move rfl) ?_
  refine wl_p (fun _ => o_nil rfl) ?_
  refine wl_p (fun _ => o_faddr (s := 119) (i := 3) (off := 3) Tryz.underlying119 rfl Tryz.sizeOf36 rfl rfl rfl) ?_
  refine wl_r (o_loadb (t := 36) Tryz.isAgg36 rfl hB (by rfl)) ?_
  refine wl_p (fun _ => o_assign rfl) ?_
  refine wl_nil ?_
  refine ret1 rfl rfl ?_
  exact ⟨rfl, rfl⟩

theorem C_RLeft {g : Nat} {l : List UInt8} {p e : Nat} (w : World) (hR : RdrI w g l p e) :
    CallsR Tryz.prog 85 [.pointer (some ⟨g, 0, none⟩)] w fun v w' => v = .int .i64 (l.drop p).length ∧ w.drew = w' := by
  obtain ⟨A, c, hB, hp, hl, he⟩ := hR.blk'
  refine callsR Tryz.func85 rfl rfl (by kernel_rfl) rfl ?_
  refine rk_seq ?_
  refine rk_region ?_
  refine wl_p (fun _ => o_assign rfl) ?_
  refine wl_nil ?_
  refine rk_seq ?_
  refine rk_seq ?_
  refine rk_region ?_
  refine wl_p (fun _ => o_move rfl) ?_
  refine wl_call rfl (C_made w hB) ?_
  rintro _ w1 ⟨rfl, rfl⟩
  refine wl_p (fun _ => o_not rfl) ?_
  refine wl_nil ?_
  refine rk_false rfl ?_
  refine rk_skip ?_
  refine rk_seq ?_
  refine rk_draw (id := 3) (none) [0, 1, 2, 4, 8, 0, 32, 64, 128, 272, 1023] [0, 1, 3, 7, 15, 0, 32, 96, 224, 511, 1023] 0 0 [(.p, 0), (.p, 1), (.p, 2), (.r, 3), (.p, 4), (.p, 5), (.p, 6), (.p, 7), (.r, 8), (.p, 9), (.p, 10)] (by kernel_rfl) (by kernel_rfl) (by kernel_rfl) (by kernel_rfl) (by kernel_rfl) ?_
  refine wl_p (fun _ => o_move rfl) ?_
  refine wl_p (fun _ => o_nil rfl) ?_
  refine wl_p (fun _ => o_faddr (s := 119) (i := 1) (off := 1) Tryz.underlying119 rfl Tryz.sizeOf39 rfl rfl rfl) ?_
  refine wl_r (o_loadb (t := 39) Tryz.isAgg39 rfl hB (by rfl)) ?_
  refine wl_p (fun _ => o_len (t := 39) Tryz.underlying39 rfl) ?_
  refine wl_p (fun _ => o_move rfl) ?_
  refine wl_p (fun _ => o_nil rfl) ?_
  refine wl_p (fun _ => o_faddr (s := 119) (i := 2) (off := 2) Tryz.underlying119 rfl Tryz.sizeOf3 rfl rfl rfl) ?_
  refine wl_r (o_loadb (t := 3) Tryz.isAgg3 rfl hB (by rfl)) ?_
  refine wl_p (fun _ => o_sub rfl rfl (by omega) (by omega)) ?_
  refine wl_p (fun _ => o_assign rfl) ?_
  refine wl_nild ?_
  refine ret1 rfl rfl ?_
  exact ⟨by rw [List.length_drop]; congr 1; omega, rfl⟩

theorem C_REnd {g : Nat} {l : List UInt8} {p e : Nat} (w : World) (hR : RdrI w g l p e) :
    CallsR Tryz.prog 42 [.pointer (some ⟨g, 0, none⟩)] w fun v w' => v = .int .i64 (rEnd (l.drop p, e)) ∧ Below w.heap.size w w' ∧ w'.heap.size = w.heap.size := by
  refine callsR Tryz.func42 rfl rfl (by kernel_rfl) rfl ?_
  refine rk_seq ?_
  refine rk_region ?_
  refine wl_p (fun _ => o_assign rfl) ?_
  refine wl_nil ?_
  refine rk_seq ?_
  refine rk_seq ?_
  refine rk_region ?_
  refine wl_p (fun _ => o_move rfl) ?_
  refine wl_call rfl (C_RErr w hR) ?_
  rintro _ w1 ⟨rfl, rfl⟩
  refine wl_p (fun _ => o_assign rfl) ?_
  refine wl_nil ?_
  refine rk_seq ?_
  refine rk_region ?_
  refine wl_p (fun _ => o_move rfl) ?_
  refine wl_p (fun _ => o_ne rfl rfl) ?_
  refine wl_nil ?_
  refine rk_if rfl (fun h => ?_) (fun h => ?_)
  · refine rk_seq ?_
    refine rk_region ?_
    refine wl_p (fun _ => o_move rfl) ?_
    refine wl_p (fun _ => o_assign rfl) ?_
    refine wl_nil ?_
    refine ret1 rfl rfl ?_
    exact ⟨by unfold rEnd; rw [if_pos (by intro h0; apply h; simp at h0; omega)], Below.refl _ _, rfl⟩
  · refine rk_skip ?_
    refine rk_seq ?_
    refine rk_seq ?_
    refine rk_region ?_
    refine wl_p (fun _ => o_move rfl) ?_
    refine wl_call rfl (C_RLeft w hR) ?_
    rintro _ w2 ⟨rfl, rfl⟩
    refine wl_p (fun _ => o_gt rfl rfl) ?_
    refine wl_nil ?_
    have h0 : e = 0 := by omega
    refine rk_if rfl (fun h => ?_) (fun h => ?_)
    · refine rk_seq ?_
      refine rk_region ?_
      refine wl_p (fun _ => o_assign rfl) ?_
      refine wl_nil ?_
      refine ret1 rfl rfl ?_
      exact ⟨by unfold rEnd; rw [if_neg (by simp [h0]), if_pos (fun h1 : l.drop p = [] => by rw [h1] at h; exact absurd h (by simp))]; rfl, (Below.refl _ _).drew, rfl⟩
    · refine rk_skip ?_
      refine rk_seq ?_
      refine rk_region ?_
      refine wl_p (fun _ => o_assign rfl) ?_
      refine wl_nil ?_
      refine ret1 rfl rfl ?_
      exact ⟨by unfold rEnd; rw [if_neg (by simp [h0]), if_neg (by simpa using List.eq_nil_of_length_eq_zero (show (l.drop p).length = 0 by omega))]; rfl, (Below.refl _ _).drew, rfl⟩

theorem Tryz.build_Reader (A : Option Addr) (n c : Nat) (w : World) : (Instr.build 119 ([1].zip [Value.slice A n c]).toArray).run Tryz.prog w = .ok (.agg #[.pointer none, .slice A n c, .int .i64 0, .int .i64 0]) w := by kernel_rfl

theorem C_Read {A : Option Addr} {l : List UInt8} {k : Nat} (c : Nat) (hk : k = l.length) (w : World) (hr : Rd w A l) (hl : l.length ≤ 140737488355328) :
    CallsR Tryz.prog 38 [.slice A k c] w fun v w' => ∃ g, v = .pointer (some ⟨g, 0, none⟩) ∧ w.heap.size ≤ g ∧ g < w'.heap.size ∧ RdrI w' g l 0 0 ∧ Below w.heap.size w w' := by
  refine callsR Tryz.func38 rfl rfl (by kernel_rfl) rfl ?_
  refine rk_seq ?_
  refine rk_region ?_
  refine wl_p (fun _ => o_assign rfl) ?_
  refine wl_nil ?_
  refine rk_seq ?_
  refine rk_region ?_
  refine wl_p (fun _ => o_move rfl) ?_
  refine wl_call rfl (C_grown c hk 0 w hr (by omega) (by omega)) ?_
  rintro _ w5 ⟨A5, c5, rfl, hown5, hb5⟩
  refine wl_p (fun _ => o_build (is := [1]) (xs := [.tmp 5]) rfl (fun _ => Tryz.build_Reader _ _ _ _)) ?_
  refine wl_box [.pointer none, .slice A5 l.length c5, .int .i64 0, .int .i64 0] rfl rfl ?_
  intro w1 hB1 hb1 hz1
  refine wl_p (fun _ => o_assign rfl) ?_
  refine wl_nil ?_
  refine rk_seq ?_
  refine rk_region ?_
  refine wl_p (fun _ => o_move rfl) ?_
  refine wl_p (fun _ => o_move rfl) ?_
  refine wl_p (fun _ => o_nil rfl) ?_
  refine wl_p (fun _ => o_faddr (s := 119) (i := 0) (off := 0) Tryz.underlying119 rfl Tryz.sizeOf81 rfl rfl rfl) ?_
  refine wl_store1 Tryz.sizeOf81 rfl rfl rfl hB1 (by simp) ?_
  intro w6 hB6 hg6 hz6
  refine wl_nil ?_
  refine rk_seq ?_
  refine rk_region ?_
  refine wl_p (fun _ => o_move rfl) ?_
  refine wl_p (fun _ => o_assign rfl) ?_
  refine wl_nil ?_
  refine ret1 rfl rfl ?_
  have hlt := hown5.lt
  have hs5 := hb5.size
  have hb6 : Below w5.heap.size w5 w6 := hb1.trans (below_of_grownBy hg6 (by omega) (Nat.le_refl _))
  have hsz : w6.heap.size = w5.heap.size + 1 := by rw [hz6, hz1]
  have hA5 : blk A5 ≠ some w5.heap.size := fun e => by have := hlt _ e; omega
  have hc5 : l.length ≤ c5 := by
    rcases hown5.2 with ⟨h1, h2⟩ | ⟨g', cap, cur, h1, h2, h3, h4, h5⟩
    · omega
    · injection h1 with _ _ h1; omega
  exact ⟨w5.heap.size, rfl, hs5, by omega, ⟨A5, c5, by simpa using hB6, (hown5.below hb6).base (by omega), hc5, by omega, hl, by omega⟩, hb5.trans (hb6.mono hs5)⟩

/-! A reader that is nil. -/
theorem C_take_nil (n : Int) (w : World) : CallsR Tryz.prog 67 [.pointer none, .int .u64 n] w fun v w' => v = .tuple #[.slice none 0 0, .bool false] ∧ w = w' := by
  refine callsR Tryz.func67 rfl rfl (by kernel_rfl) rfl ?_
  refine rk_seq ?_
  refine rk_region ?_
  refine wl_p (fun _ => o_assign rfl) ?_
  refine wl_p (fun _ => o_assign rfl) ?_
  refine wl_nil ?_
  refine rk_seq ?_
  refine rk_seq ?_
  refine rk_region ?_
  refine wl_p (fun _ => o_move rfl) ?_
  refine wl_call rfl (C_made_nil w) ?_
  rintro _ w8 ⟨rfl, rfl⟩
  refine wl_p (fun _ => o_not rfl) ?_
  refine wl_p (fun _ => o_move rfl) ?_
  refine wl_off ?_
  refine wl_off ?_
  refine wl_off ?_
  refine wl_off ?_
  refine wl_off ?_
  refine wl_p (fun _ => o_pick_t rfl rfl) ?_
  refine wl_nil ?_
  refine rk_true rfl ?_
  refine rk_seq ?_
  refine rk_region ?_
  refine wl_p (fun _ => o_assign rfl) ?_
  refine wl_p (fun _ => o_assign rfl) ?_
  refine wl_nil ?_
  refine ret2 rfl rfl rfl ?_
  exact ⟨rfl, rfl⟩
theorem C_RNumber_nil (w : World) : CallsR Tryz.prog 160 [.pointer none] w fun v w' => v = .int .u64 0 ∧ w = w' := by
  refine callsR Tryz.func160 rfl rfl (by kernel_rfl) rfl ?_
  refine rk_seq ?_
  refine rk_region ?_
  refine wl_p (fun _ => o_assign rfl) ?_
  refine wl_nil ?_
  refine rk_seq ?_
  refine rk_region ?_
  refine wl_p (fun _ => o_move rfl) ?_
  refine wl_call rfl (C_take_nil 1 w) ?_
  rintro _ w8 ⟨rfl, rfl⟩
  refine wl_p (fun _ => o_move rfl) ?_
  refine wl_p (fun _ => o_ext20 rfl) ?_
  refine wl_p (fun _ => o_ext21 rfl) ?_
  refine wl_p (fun _ => o_assign rfl) ?_
  refine wl_p (fun _ => o_assign rfl) ?_
  refine wl_nil ?_
  refine rk_seq ?_
  refine rk_seq ?_
  refine rk_region ?_
  refine wl_p (fun _ => o_move rfl) ?_
  refine wl_p (fun _ => o_not rfl) ?_
  refine wl_nil ?_
  refine rk_true rfl ?_
  refine rk_seq ?_
  refine rk_region ?_
  refine wl_p (fun _ => o_assign rfl) ?_
  refine wl_nil ?_
  refine ret1 rfl rfl ?_
  exact ⟨rfl, rfl⟩
theorem C_RBlock_nil (w : World) : CallsR Tryz.prog 120 [.pointer none] w fun v w' => v = .slice none 0 0 ∧ w = w' := by
  refine callsR Tryz.func120 rfl rfl (by kernel_rfl) rfl ?_
  refine rk_seq ?_
  refine rk_region ?_
  refine wl_p (fun _ => o_assign rfl) ?_
  refine wl_nil ?_
  refine rk_seq ?_
  refine rk_seq ?_
  refine rk_region ?_
  refine wl_p (fun _ => o_move rfl) ?_
  refine wl_call rfl (C_made_nil w) ?_
  rintro _ w8 ⟨rfl, rfl⟩
  refine wl_p (fun _ => o_not rfl) ?_
  refine wl_nil ?_
  refine rk_true rfl ?_
  refine rk_seq ?_
  refine rk_region ?_
  refine wl_p (fun _ => o_assign rfl) ?_
  refine wl_nil ?_
  refine ret1 rfl rfl ?_
  exact ⟨rfl, rfl⟩
theorem C_RWord_nil (n : Int) (w : World) : CallsR Tryz.prog 39 [.pointer none, .int .i64 n] w fun v w' => v = .int .u64 0 ∧ w = w' := by
  obtain ⟨hk1, hk2, hk3⟩ := clampN_bd n
  refine callsR Tryz.func39 rfl rfl (by kernel_rfl) rfl ?_
  refine rk_seq ?_
  refine rk_region ?_
  refine wl_p (fun _ => o_assign rfl) ?_
  refine wl_nil ?_
  refine rk_seq ?_
  refine rk_region ?_
  refine wl_p (fun _ => o_move rfl) ?_
  refine wl_p (fun _ => o_move rfl) ?_
  refine wl_call rfl (C_clamp n w) ?_
  rintro _ w1 ⟨rfl, rfl⟩
  rw [hk3]
  refine wl_p (fun _ => o_convu64 (src := 3) (dst := 43) Tryz.underlying3 Tryz.underlying43 rfl (by omega) (by omega)) ?_
  refine wl_call rfl (C_take_nil _ w) ?_
  rintro _ w8 ⟨rfl, rfl⟩
  refine wl_p (fun _ => o_move rfl) ?_
  refine wl_p (fun _ => o_ext20 rfl) ?_
  refine wl_p (fun _ => o_ext21 rfl) ?_
  refine wl_p (fun _ => o_assign rfl) ?_
  refine wl_p (fun _ => o_assign rfl) ?_
  refine wl_nil ?_
  refine rk_seq ?_
  refine rk_seq ?_
  refine rk_region ?_
  refine wl_p (fun _ => o_move rfl) ?_
  refine wl_p (fun _ => o_not rfl) ?_
  refine wl_nil ?_
  refine rk_true rfl ?_
  refine rk_seq ?_
  refine rk_region ?_
  refine wl_p (fun _ => o_assign rfl) ?_
  refine wl_nil ?_
  refine ret1 rfl rfl ?_
  exact ⟨rfl, rfl⟩
theorem C_RErr_nil (w : World) : CallsR Tryz.prog 41 [.pointer none] w fun v w' => v = .int .i64 1 ∧ w = w' := by
  refine callsR Tryz.func41 rfl rfl (by kernel_rfl) rfl ?_
  refine rk_seq ?_
  refine rk_region ?_
  refine wl_p (fun _ => o_assign rfl) ?_
  refine wl_nil ?_
  refine rk_seq ?_
  refine rk_seq ?_
  refine rk_region ?_
  refine wl_p (fun _ => o_move rfl) ?_
  refine wl_call rfl (C_made_nil w) ?_
  rintro _ w8 ⟨rfl, rfl⟩
  refine wl_p (fun _ => o_not rfl) ?_
  refine wl_nil ?_
  refine rk_true rfl ?_
  refine rk_seq ?_
  refine rk_region ?_
  refine wl_p (fun _ => o_assign rfl) ?_
  refine wl_nil ?_
  refine ret1 rfl rfl ?_
  exact ⟨rfl, rfl⟩
theorem C_RLeft_nil (w : World) : CallsR Tryz.prog 85 [.pointer none] w fun v w' => v = .int .i64 0 ∧ w = w' := by
  refine callsR Tryz.func85 rfl rfl (by kernel_rfl) rfl ?_
  refine rk_seq ?_
  refine rk_region ?_
  refine wl_p (fun _ => o_assign rfl) ?_
  refine wl_nil ?_
  refine rk_seq ?_
  refine rk_seq ?_
  refine rk_region ?_
  refine wl_p (fun _ => o_move rfl) ?_
  refine wl_call rfl (C_made_nil w) ?_
  rintro _ w8 ⟨rfl, rfl⟩
  refine wl_p (fun _ => o_not rfl) ?_
  refine wl_nil ?_
  refine rk_true rfl ?_
  refine rk_seq ?_
  refine rk_region ?_
  refine wl_p (fun _ => o_assign rfl) ?_
  refine wl_nil ?_
  refine ret1 rfl rfl ?_
  exact ⟨rfl, rfl⟩
theorem C_REnd_nil (w : World) : CallsR Tryz.prog 42 [.pointer none] w fun v w' => v = .int .i64 1 ∧ w = w' := by
  refine callsR Tryz.func42 rfl rfl (by kernel_rfl) rfl ?_
  refine rk_seq ?_
  refine rk_region ?_
  refine wl_p (fun _ => o_assign rfl) ?_
  refine wl_nil ?_
  refine rk_seq ?_
  refine rk_seq ?_
  refine rk_region ?_
  refine wl_p (fun _ => o_move rfl) ?_
  refine wl_call rfl (C_RErr_nil w) ?_
  rintro _ w8 ⟨rfl, rfl⟩
  refine wl_p (fun _ => o_assign rfl) ?_
  refine wl_nil ?_
  refine rk_seq ?_
  refine rk_region ?_
  refine wl_p (fun _ => o_move rfl) ?_
  refine wl_p (fun _ => o_ne rfl rfl) ?_
  refine wl_nil ?_
  refine rk_true rfl ?_
  refine rk_seq ?_
  refine rk_region ?_
  refine wl_p (fun _ => o_move rfl) ?_
  refine wl_p (fun _ => o_assign rfl) ?_
  refine wl_nil ?_
  refine ret1 rfl rfl ?_
  exact ⟨rfl, rfl⟩

theorem B8_zeros (n : Nat) : B8 (nulls n) = List.replicate n (.int .u8 0) := by simp [B8, nulls]

end Go.Proofs.YtahkeoegbjopfaaGreat
/-
  Where ways meet again: joins. No function of the program is named here.
-/
namespace Go.Proofs.YtahkeoegbjopfaaGreat
set_option maxRecDepth 100000
open Go.RowKit
section
variable {P : Program} {fn : Func} {F : Ending → World → Prop} {N : Nat} {ks : List K} {k : K} {ops : Array Oper} {l : List Oper} {fr : Fr} {w : World} {tg : Tags}

/-- All ways through k come to a state of R; from there it goes on once. -/
theorem rk_join (R : Fr → World → Prop) (h2 : ∀ fr w, R fr w → RK P fn F N ks fr w) (h1 : ∀ ks, (∀ fr w, R fr w → RK P fn F N ks fr w) → RK P fn F N (k :: ks) fr w) : RK P fn F N (k :: ks) fr w := h1 ks h2
theorem rk_joinb {id : Nat} (R : Fr → World → Prop) (h2 : ∀ fr w, R fr w → RK P fn F N ks fr w) (h1 : ∀ ks, (∀ fr w, R fr w → RK P fn F N ks fr w) → RK P fn F N (k :: .blk id :: ks) fr w) : RK P fn F N (k :: .blk id :: ks) fr w := h1 ks h2
/-- The same where a way may leave by what lies beneath (a loop's round, an outer block). -/
theorem rk_joinc (R : Fr → World → Prop) (h2 : ∀ fr w, R fr w → RK P fn F N ks fr w) (h1 : (∀ fr w, R fr w → RK P fn F N ks fr w) → RK P fn F N (k :: ks) fr w) : RK P fn F N (k :: ks) fr w := h1 h2
theorem rk_to {R : Fr → World → Prop} (hj : ∀ fr w, R fr w → RK P fn F N ks fr w) {fr0 : Fr} (hs : Fr.sub fr0 fr) (h : R fr0 w) : RK P fn F N ks fr w := (hj fr0 w h).sub hs

/-- The same within a region: all ways through the next n operations come to a state of R. -/
def Tags.tails : Nat → Tags → Tags
  | 0, tg => tg
  | n + 1, tg => Tags.tails n tg.tail
theorem wl_join (n : Nat) (R : Fr → World → Prop) (h2 : ∀ fr w, R fr w → WL P fn F N ks ops (Tags.tails n tg) (l.drop n) fr w) (h1 : (∀ fr w, R fr w → WL P fn F N ks ops (Tags.tails n tg) (l.drop n) fr w) → WL P fn F N ks ops tg l fr w) : WL P fn F N ks ops tg l fr w := h1 h2
theorem wl_to {R : Fr → World → Prop} (hj : ∀ fr w, R fr w → WL P fn F N ks ops tg l fr w) {fr0 : Fr} (hs : Fr.sub fr0 fr) (h : R fr0 w) : WL P fn F N ks ops tg l fr w := fun a ha => hj fr0 w h a (ha.sub hs)

section
variable {x y : Operand} {m n : Int} {t t' ty : TypeId} {ik : IntKind}
theorem o_remz (hx : fr.ev x = some (.int ik m)) (hy : fr.ev y = some (.int ik n)) (h : n ≠ 0) : OpV P N fr w (.binOp .rem t x y t') ty (.int ik (m.tmod n)) w := o_bin hx hy eqg_int (by
  rw [binOp_rem]
  simp [Op.intDiv, h])
theorem o_remu (hx : fr.ev x = some (.int ik m)) (hy : fr.ev y = some (.int ik n)) (h0 : 0 ≤ m) (h2 : 0 < n) : OpV P N fr w (.binOp .rem t x y t') ty (.int ik (m % n)) w := o_bin hx hy eqg_int (by
  rw [binOp_rem]
  have hne : n ≠ 0 := by omega
  have e : m.tmod n = m % n := Int.tmod_eq_emod_of_nonneg h0
  simp [Op.intDiv, hne, e])
theorem o_quoz (hx : fr.ev x = some (.int ik m)) (hy : fr.ev y = some (.int ik n)) (h : n ≠ 0) : OpV P N fr w (.binOp .quo t x y t') ty (.int ik (ik.wrap (m.tdiv n))) w := o_bin hx hy eqg_int (by
  rw [binOp_quo]
  simp [Op.intDiv, h])
theorem o_quou (hx : fr.ev x = some (.int ik m)) (hy : fr.ev y = some (.int ik n)) (h0 : 0 ≤ m) (h2 : 0 < n) : OpV P N fr w (.binOp .quo t x y t') ty (.int ik (ik.wrap (m / n))) w := o_bin hx hy eqg_int (by
  rw [binOp_quo]
  have hne : n ≠ 0 := by omega
  have e : m.tdiv n = m / n := Int.tdiv_eq_ediv_of_nonneg h0
  simp [Op.intDiv, hne, e])
end
end
end Go.Proofs.YtahkeoegbjopfaaGreat
/-
  Rows of elements of any size: literals, append, parts; results of a cell and a slot; calls of function values.
-/
namespace Go.Proofs.YtahkeoegbjopfaaGreat
set_option maxRecDepth 100000
open Go.RowKit

theorem foldl_set (o : Nat) : ∀ (vs : List Value) (i : Nat) (L : List Value), o + i + vs.length ≤ L.length →
    (vs.zipIdx i).foldl (fun (cs : Array Value) (x : Value × Nat) => cs.setIfInBounds (o + x.2) x.1) L.toArray = (spl L (o + i) vs).toArray
  | [], i, L, _ => by simp [spl]
  | v :: vs, i, L, hl => by
    simp only [List.length_cons] at hl
    rw [List.zipIdx_cons, List.foldl_cons]
    have ih := foldl_set o vs (i + 1) (L.set (o + i) v) (by simp; omega)
    simp only [List.setIfInBounds_toArray]
    rw [ih]
    congr 1
    have hlt : o + i < L.length := by omega
    simp only [spl, List.length_cons]
    rw [show o + (i + 1) = (o + i) + 1 from by omega, List.take_succ_eq_append_getElem (by simpa using hlt), List.take_set_of_le (Nat.le_refl _), List.drop_set_of_lt (by omega)]
    simp [Nat.add_comm, Nat.add_left_comm, Nat.add_assoc]
theorem fill_rangen {sz : Nat} {place : Nat → Option (Nat × Nat)} (hp : ∀ i, place i = some (i * sz, sz)) : ∀ (vs : List Value) (k : Nat) (cells : List Value), (∀ v ∈ vs, v.cells.size = sz) → (k + vs.length) * sz = cells.length →
    Instr.fill place cells.toArray ((List.range' k vs.length).zip vs) = some (cells.take (k * sz) ++ vs.flatMap fun v => v.cells.toList).toArray
  | [], k, cells, _, hl => by
    simp only [List.length_nil, Nat.add_zero] at hl
    simp [Instr.fill, hl]
  | v :: vs, k, cells, h1, hl => by
    have hv := h1 v (by simp)
    have hlen : k * sz + sz ≤ cells.length := by
      rw [← hl, List.length_cons, Nat.add_mul, Nat.add_mul]; omega
    have hsp := spl_length (L := cells) (vs := v.cells.toList) (k := k * sz) (by simp [hv]; omega)
    have ih := fill_rangen hp vs (k + 1) (spl cells (k * sz) v.cells.toList) (fun u hu => h1 u (by simp [hu])) (by rw [hsp, ← hl, List.length_cons]; congr 1; omega)
    simp only [List.length_cons, List.range'_succ, List.zip_cons_cons, Instr.fill, hp]
    rw [if_neg (by simp [hv]; omega)]
    have hf := foldl_set (k * sz) v.cells.toList 0 cells (by simp [hv]; omega)
    have e : v.cells.zipIdx.foldl (fun cs (x : Value × Nat) => match x with | (c, j) => cs.setIfInBounds (k * sz + j) c) cells.toArray = (spl cells (k * sz) v.cells.toList).toArray := by
      rw [← Array.foldl_toList, Array.toList_zipIdx]
      exact hf
    rw [e, ih]
    congr 2
    rw [List.flatMap_cons, ← List.append_assoc]
    congr 1
    rw [Nat.add_mul, Nat.one_mul, spl, List.take_append_of_le_length (by simp; omega)]
    have h5 : (List.take (k * sz) cells ++ v.cells.toList).length = k * sz + sz := by rw [List.length_append, List.length_take, Nat.min_eq_left (by omega)]; simp [hv]
    rw [← h5, List.take_length]
theorem run_litn {P : Program} {w : World} {t e : TypeId} {z : Value} {sz : Nat} (hu : P.underlying t = some (.slice e)) (hs : ∀ w, (sizeOf e).run P w = .ok sz w) (hz : ∀ w, (zeroValue e).run P w = .ok z w) (vs : List Value) (h1 : ∀ v ∈ vs, v.cells.size = sz) (hn : vs.length * sz ≤ 16777216) :
    (Instr.buildSlice t vs.length ((List.range' 0 vs.length).zip vs).toArray).run P w = .ok (.slice (some ⟨w.heap.size, 0, none⟩) vs.length vs.length) (w.alloc (.cells (vs.flatMap fun v => v.cells.toList).toArray e)) := by
  have hf : ∀ (cells : Array Value), cells.size = vs.length * sz → Instr.fill (fun i => some (i * sz, sz)) cells ((List.range' 0 vs.length).zip vs) = some (vs.flatMap fun v => v.cells.toList).toArray := fun cells hc => by
    have := fill_rangen (place := fun i => some (i * sz, sz)) (fun _ => rfl) vs 0 cells.toList h1 (by simp [hc])
    simpa using this
  have hn' : ¬ (16777216 < vs.length * sz) := by omega
  by_cases hv : vs.length * sz = 0
  · have h2 := hf #[] (by simp [hv])
    simp [Instr.buildSlice, run_underlying hu, hs, hv, newRow, newObj, Sem.run, show Array.range 0 = #[] from rfl, h2]
  · have h2 := hf (Array.map (fun x => z.cells[x % z.cells.size]!) (Array.range (vs.length * sz))) (by simp)
    simp [Instr.buildSlice, run_underlying hu, hs, hz, hn', hv, newRow, newObj, Sem.run, h2]

/-- What a row's element type must be. -/
structure RowT (P : Program) (t e : TypeId) (z : Value) (sz bytes : Nat) : Prop where
  ht : P.underlying t = some (.slice e)
  hi : (P.info? e).map (fun i => (i.zero, i.size, i.bytes)) = some (some z, sz, bytes)
  hz : z.cells.size = sz
  h0 : 0 < sz

section
variable {w w' : World} {sz n : Nat} {A : Option Addr} {xs : List Value}
theorem Reads.cutn (h : Reads w sz A n xs) {k m cap : Nat} (hk : k ≤ n) (hc : n ≤ cap) (hm : m = n - k) : Reads w sz (cutA A cap sz k) m (xs.drop (k * sz)) := by
  subst hm
  have hl := h.1
  refine ⟨by rw [List.length_drop, hl, Nat.sub_mul], fun hn => ?_⟩
  have hkn : k * sz < xs.length := by
    rcases Nat.lt_or_ge (k * sz) xs.length with h1 | h1
    · exact h1
    · exact absurd (List.drop_eq_nil_of_le h1) hn
  obtain ⟨b, o, rfl, hcell⟩ := h.2 (by intro e; rw [e] at hkn; simp at hkn)
  have hkn' : k < n := by
    rw [hl] at hkn
    exact Nat.lt_of_mul_lt_mul_right hkn
  unfold cutA
  rw [if_neg (by omega)]
  refine ⟨b, o + k * sz, by simp [add_plain], fun j u hu => ?_⟩
  rw [Nat.add_assoc]
  exact hcell _ u (by rw [← hu, List.getElem?_drop])
theorem Reads.taken (h : Reads w sz A n xs) {k : Nat} (hk : k ≤ n) : Reads w sz A k (xs.take (k * sz)) := by
  have hl := h.1
  refine ⟨by rw [List.length_take, hl]; exact Nat.min_eq_left (Nat.mul_le_mul_right _ hk), fun hn => ?_⟩
  obtain ⟨b, o, rfl, hcell⟩ := h.2 (by intro e; simp [e] at hn)
  refine ⟨b, o, rfl, fun j u hu => hcell _ u ?_⟩
  rw [List.getElem?_take] at hu
  split at hu
  · exact hu
  · cases hu
end

section
variable {P : Program} (w : World)
theorem run_append_zeros (t ti ty e : TypeId) (i : TypeInfo) (z : Value) (ht : P.underlying t = some (.slice e)) (hti : P.underlying ti = some (.int .i64)) (hi : P.info? e = some i) (hz : i.zero = some z) (hzs : z.cells.size = i.size) (h0 : 0 < i.size) (m : Nat) (hm : 0 < m) (h63 : m ≤ 9223372036854775807) (hb : m * i.bytes ≤ 281474976710656) :
    (Builtin.append_ #[t, ti] ty #[.slice none 0 0, .int .i64 m]).run P w =
      .ok (.slice (some ⟨w.heap.size, 0, none⟩) m (grownCap w m 0 e)) (w.drew.alloc (.cells (Builtin.zeroCells z.cells m ++ Builtin.zeroCells z.cells (grownCap w m 0 e - m)) e)) := by
  have hn : m ≠ 0 := by omega
  have h63' : ¬ (9223372036854775807 < (m : Int)) := by omega
  have h48' : ¬ (281474976710656 < Builtin.nextslicecap m 0 * i.bytes) := by rw [nextslicecap_zero hm]; omega
  have hw : IntKind.i64.wrap (m : Int) = m := i64_in (by omega) (by omega)
  have hb' : ¬ (281474976710656 < (m : Int) * (i.bytes : Int)) := by
    have : (m : Int) * (i.bytes : Int) = ((m * i.bytes : Nat) : Int) := by simp
    omega
  have hms : m * i.size ≠ 0 := Nat.mul_ne_zero hn (by omega)
  have hneg : ¬ ((m : Int) < 0) := by omega
  simp [Builtin.append_, run_underlying ht, run_underlying hti, sizeOf, typeInfo, zeroValue, hi, hz, asInt, asIntOf, hw, hn, h63', h48', hb', hms, hneg, Question.forced, run_firstCells_none, newRow, grownCap]
end

section
variable {P : Program} {fn : Func} {F : Ending → World → Prop} {N : Nat} {ks : List K} {ops : Array Oper} {tg : Tags} {l : List Oper} {fr : Fr} {w : World} {ty t t2 e : TypeId} {z : Value} {sz bytes : Nat} {pos : String} {aft : Array Edge} {gd : Option (Nat × Bool)} {d g : Nat} {x y k : Operand}
/-- append(x, y...): x the call's own. -/
theorem wl_appn (T : RowT P t e z sz bytes) {B : Nat} {A X : Option Addr} {n c j q : Nat} {xs ms : List Value} (hx : fr.ev x = some (.slice A n c)) (hown : w.ownsRow B e sz (.slice A n c) n xs) (hy : fr.ev y = some (.slice X j q)) (hr : Reads w sz X j ms) (h1 : ∀ u ∈ ms, u.oneCell' = true)
    (h63 : n + j ≤ maxLen) (hlen : (n + j) * bytes ≤ 140737488355328) (hB : B ≤ w.heap.size)
    (h : ∀ A' c' w', w'.ownsRow B e sz (.slice A' (n + j) c') (n + j) (xs ++ ms) → w.grownBy w' (blk A) → (blk A' = blk A ∨ blk A' = some w.heap.size) → Below B w w' → WL P fn F N ks ops tg.tail l ((d, .slice A' (n + j) c') :: fr) w')
    (ht : tg.loud = true := by rfl) (hg : onG ops fr gd = true := by rfl) (hd : Nat.blt d N = true := by rfl) (hq : tg.calm = false ∨ blk A = none ∨ blk A = tg.row := by exact .inl rfl) :
    WL P fn F N ks ops tg (⟨some d, .call { callee := .builtin .append, args := #[x, y], argTypes := #[t, t] }, ty, pos, aft, gd⟩ :: l) fr w := by
  obtain ⟨i, hi, hz, hs, hb⟩ := info_parts T.hi
  obtain ⟨v', w', hrun, h2, h3, h4⟩ := run_append_any (P := P) w B t ty e i z sz bytes T.ht hi hz hs hb T.hz T.h0 (.slice A n c) n xs hown X j q ms hr h1 h63 hlen hB
  obtain ⟨A', c', rfl⟩ := ownsRow_shape h2
  rw [blk_own] at h3 h4
  rw [blk_own] at h4
  have hlt : ∀ b, blk A = some b → B ≤ b ∧ b < w.heap.size := fun b hb => World.ownsRow.lt hown b (by rw [blk_own]; exact hb)
  exact wl_v (o_builtin (xs := [x, y]) (vs := [.slice A n c, .slice X j q]) (by simp [Fr.evs, hx, hy]) (by simp [builtin, hrun]) (by simp)) (h A' c' w' h2 h3 h4 ((Below.refl B w).grown h3 hB (fun b hb => (hlt b hb).1))) ht hg hd
    (hq.imp id fun e => e.elim (fun e => grown_wide (e ▸ h3) _) (fun e => e ▸ h3))
/-- A slice literal, all its elements in order. -/
theorem wl_litn {xs : List Operand} {vs : List Value} (T : RowT P t e z sz bytes) (hs : ∀ w, (sizeOf e).run P w = .ok sz w) (hz : ∀ w, (zeroValue e).run P w = .ok z w) (n : Nat) (hx : fr.evs xs = some vs) (hn : vs.length = n) (h1 : ∀ v ∈ vs, v.cells.size = sz) (hm : Nat.ble (n * sz) 1000000 = true)
    (hk : ∀ w', (∀ B, B ≤ w.heap.size → w'.ownsRow B e sz (.slice (some ⟨w.heap.size, 0, none⟩) n n) n (vs.flatMap fun v => v.cells.toList)) → Below w.heap.size w w' → w'.heap.size = w.heap.size + 1 → WL P fn F N ks ops tg.tail l ((d, .slice (some ⟨w.heap.size, 0, none⟩) n n) :: fr) w')
    (ht : tg.loud = true := by rfl) (hg : onG ops fr gd = true := by rfl) (hd : Nat.blt d N = true := by rfl) : WL P fn F N ks ops tg (⟨some d, .buildSlice t n ((List.range' 0 n).zip xs).toArray, ty, pos, aft, gd⟩ :: l) fr w := by
  subst hn
  have hm' : vs.length * sz ≤ 1000000 := by simpa using hm
  have hr := run_litn (P := P) (w := w) T.ht hs hz vs h1 (by omega)
  have hfl : (vs.flatMap fun v => v.cells.toList).length = vs.length * sz := by
    clear hr hm hm' hk hx
    induction vs with
    | nil => simp
    | cons v vs ih => simp only [List.flatMap_cons, List.length_append, List.length_cons, Array.length_toList, h1 v (by simp), ih (fun u hu => h1 u (by simp [hu])), Nat.add_mul]; omega
  have hlen : vs.length ≤ 1000000 := by
    have h0 := T.h0
    exact Nat.le_trans (Nat.le_mul_of_pos_right _ h0) hm'
  exact wl_v (o_lit hx hr) (hk _ (fun B hB => ⟨hfl, .inr ⟨w.heap.size, vs.length, _, rfl, hB, heap_alloc_new w _, Nat.le_refl _, by simp only [maxLen]; omega, by simpa using hfl, by rw [← hfl]; exact List.take_length⟩⟩) (below_alloc w _) (by simp)) ht hg hd (.inr (grown_of_below (below_alloc w _) _))
/-- append(nil, make([]T, m)...): the room alone is kept. -/
theorem wl_appz {ti : TypeId} {m : Nat} {v : Int} (T : RowT P t e z sz bytes) (hti : P.underlying ti = some (.int .i64)) (hx : fr.ev x = some (.slice none 0 0)) (hy : fr.ev y = some (.int .i64 v)) (hv : v = (m : Int)) (hm : 0 < m) (h63 : m ≤ 1000000000) (hb : m * bytes ≤ 281474976710656)
    (hk : ∀ w' c, (∀ B, B ≤ w.heap.size → w'.ownsRow B e sz (.slice (some ⟨w.heap.size, 0, none⟩) 0 c) 0 []) → m ≤ c → Below w.heap.size w w' → WL P fn F N ks ops tg.tail l ((d, .slice (some ⟨w.heap.size, 0, none⟩) m c) :: fr) w')
    (ht : tg.loud = true := by rfl) (hg : onG ops fr gd = true := by rfl) (hd : Nat.blt d N = true := by rfl) :
    WL P fn F N ks ops tg (⟨some d, .call { callee := .builtin .append, args := #[x, y], argTypes := #[t, ti] }, ty, pos, aft, gd⟩ :: l) fr w := by
  subst hv
  obtain ⟨i, hi, hz, hs, hb'⟩ := info_parts T.hi
  have hrun := run_append_zeros (P := P) w t ti ty e i z T.ht hti hi hz (by rw [T.hz, hs]) (by rw [hs]; exact T.h0) m hm (by omega) (by rw [hb']; exact hb)
  have hge := grownCap_ge w m 0 e
  have hcm : grownCap w m 0 e ≤ maxLen := grownCap_le_maxLen w m 0 e (by simp only [maxLen]; omega)
  have hbl : Below w.heap.size w (w.drew.alloc (.cells (Builtin.zeroCells z.cells m ++ Builtin.zeroCells z.cells (grownCap w m 0 e - m)) e)) := ((Below.refl w.heap.size w).drew.alloc (Nat.le_refl _) _)
  refine wl_v (o_builtin (xs := [x, y]) (vs := [.slice none 0 0, .int .i64 m]) (by simp [Fr.evs, hx, hy]) (by simp [builtin, hrun]) (by simp))
    (hk _ _ (fun B hB => ⟨by simp, .inr ⟨w.heap.size, _, _, rfl, hB, heap_alloc_new w.drew _, Nat.zero_le _, hcm, ?_, by simp⟩⟩) hge hbl) ht hg hd (.inr (grown_of_below hbl _))
  simp only [Array.size_append, size_zeroCells, T.hz, ← Nat.add_mul]
  congr 1
  omega
/-- A result in a cell and one in a slot. -/
theorem ret_cell_tmp {p q n : Nat} {cs : List Value} {v : Value} {t' : TypeId} {R : Value → World → Prop} (h : fn.results = #[.cell p t, .tmp q]) (hp : fr.get p = some (.pointer (some ⟨g, 0, none⟩))) (hv : fr.get q = some v) (ha' : ∀ w, (isAgg t).run P w = .ok true w) (hs : ∀ w, (sizeOf t).run P w = .ok n w)
    (hB : Blk w g t' cs) (hn : cs.length = n) (hR : R (.tuple #[.agg cs.toArray, v]) w) : RK P fn (fun e w' => ∃ v, e = .returned v ∧ R v w') N (.code .ret :: ks) fr w :=
  rk_ret (F := fun e w' => ∃ v, e = .returned v ∧ R v w') (fun a ha => ⟨.tuple #[.agg cs.toArray, v], by
    have hp' : a.tmps[p]?.getD undef = .pointer (some ⟨g, 0, none⟩) := by rw [ha.get p _ hp]; rfl
    have hv' : a.tmps[q]?.getD undef = v := by rw [ha.get q _ hv]; rfl
    subst hn
    have hl : (loadCells ⟨g, 0, none⟩ cs.length).run P w = .ok cs.toArray w := run_loadCells_list (P := P) w ⟨g, 0, none⟩ cs (fun j u hu => by rw [add_plain, hB.cell, Nat.zero_add]; exact hu)
    simp [results, h, hp', hv', asAddr, loadVar, ha', hs, hl], ⟨_, rfl, hR⟩⟩)
/-- A function value that closes over variables. -/
theorem o_makeFunc {f : FuncId} {xs : List Operand} {vs : List Value} (hx : fr.evs xs = some vs) : OpV P N fr w (.makeFunc (.func f) #[] xs.toArray) ty (.func (.func f) #[] vs.toArray) w := fun a ha o ho _ => by
  have hargs : Array.map a.eval xs.toArray = vs.toArray := by rw [List.map_toArray, ha.evs hx]
  simp [execOp, ho, hargs, Instr.makeFunc]
theorem run_callf {ρ : Operand → Value} {f : FuncId} (hB : Bodied P f) {q : Operand} {xs : Array Operand} {ts : Array TypeId} {vs cs : Array Value} (hv : xs.map ρ = vs) (hρ : ρ q = .func (.func f) #[] cs) (o : Oper)
    (ho : o.op = .call { callee := .value q, args := xs, argTypes := ts }) : (execOp ρ o).run P w = .ok (.enter f (vs ++ cs)) w := by
  obtain ⟨g, h1, h2, h3⟩ := hB
  simp [execOp, ho, resolve, invoke, hρ, hv, Deferred.ofValue, callFunc, h1]
  rw [if_neg (by simpa using h3), if_neg (by intro e; rw [e] at h2; cases h2)]
theorem wl_callf {f : FuncId} {q : Operand} {xs : List Operand} {ts : Array TypeId} {vs cs : List Value} {R : Value → World → Prop} (hq0 : fr.ev q = some (.func (.func f) #[] cs.toArray)) (hx : fr.evs xs = some vs) (hc : CallsR P f (vs ++ cs) w R) (hk : ∀ v w', R v w' → WL P fn F N ks ops tg.tail l ((d, v) :: fr) w')
    (ht : tg.loud = true := by rfl) (hg : onG ops fr gd = true := by rfl) (hd : Nat.blt d N = true := by rfl) (hq : tg.calm = false ∨ ∀ v w', R v w' → w.grownBy w' tg.row := by exact .inl rfl) :
    WL P fn F N ks ops tg (⟨some d, .call { callee := .value q, args := xs.toArray, argTypes := ts }, ty, pos, aft, gd⟩ :: l) fr w :=
  fun a ha => left_loud ht fun K hK => by
    rw [if_pos (wanted_on (o := ⟨some d, .call { callee := .value q, args := xs.toArray, argTypes := ts }, ty, pos, aft, gd⟩) ha hg)]
    have hargs : Array.map a.eval xs.toArray = vs.toArray := by rw [List.map_toArray, ha.evs hx]
    unfold Oper.wp
    rw [run_callf hc.1 hargs (ha.ev hq0) _ rfl]
    have hc2 := hc.2
    rw [← List.append_toArray] at hc2
    refine Calls.mono hc2 ?_
    rintro e w' ⟨v, rfl, hr⟩
    exact hK _ _ (hq.imp id fun h => Rw.of (h v w' hr)) (hk v w' hr _ (ha.put hd v))
end
end Go.Proofs.YtahkeoegbjopfaaGreat
