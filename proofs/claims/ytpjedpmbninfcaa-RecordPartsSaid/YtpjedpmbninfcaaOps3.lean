/-
  Blocks that are known whole: rules that read and write them. No function of the program is named here.
-/
import Derived.Test.YtpjedpmbninfcaaOps2
import Derived.Stop.BytesEq
namespace Go.Proofs.Ytpjedpmbninfcaa
open Go.RowKit

/-- Block g is just the cells cs of element type t, none of them frozen. -/
def Blk (w : World) (g : Nat) (t : TypeId) (cs : List Value) : Prop := w.heap[g]? = some (.cells cs.toArray t (0, 0))
/-- The cells L with vs laid over them from k on. -/
def spl (L : List Value) (k : Nat) (vs : List Value) : List Value := L.take k ++ vs ++ L.drop (k + vs.length)
theorem spl_length {L vs : List Value} {k : Nat} (h : k + vs.length ≤ L.length) : (spl L k vs).length = L.length := by simp [spl]; omega
theorem spl_all {L vs : List Value} (h : vs.length = L.length) : spl L 0 vs = vs := by simp [spl, h]
theorem spl_one {L : List Value} {k : Nat} {v : Value} (h : k < L.length) : spl L k [v] = L.set k v := by
  rw [spl, List.set_eq_take_append_cons_drop, if_pos h]; simp

section
variable {P : Program} {w w' : World} {g : Nat} {t : TypeId} {cs : List Value}
theorem Blk.lt (h : Blk w g t cs) : g < w.heap.size := by
  rcases Nat.lt_or_ge g w.heap.size with hlt | hge
  · exact hlt
  · unfold Blk at h; rw [Array.getElem?_eq_none hge] at h; cases h
theorem Blk.cell (h : Blk w g t cs) (i : Nat) : w.cell? ⟨g, i, none⟩ = cs[i]? := by
  rw [cell_of_row w g i cs.toArray t (0, 0) h]; simp
theorem Blk.frozen (h : Blk w g t cs) (i : Nat) : w.frozen? ⟨g, i, none⟩ = false := by
  unfold Blk at h
  simp [World.frozen?, h]
theorem Blk.new (w : World) (t : TypeId) (cs : Array Value) : Blk (w.alloc (.cells cs t)) w.heap.size t cs.toList := by
  unfold Blk; rw [Array.toArray_toList]; exact heap_alloc_new w _
theorem Blk.drew (h : Blk w g t cs) : Blk w.drew g t cs := h
theorem Blk.alloc (h : Blk w g t cs) (o : Obj) : Blk (w.alloc o) g t cs := (Below.heap_alloc w o g h.lt).trans h
theorem Blk.below {B : Nat} (h : Blk w g t cs) (hb : Below B w w') (hg : g < B) : Blk w' g t cs := (hb.block g hg).trans h
theorem Blk.under (h : Blk w g t cs) (hb : Below w.heap.size w w') : Blk w' g t cs := h.below hb h.lt
theorem Blk.grown {row : Option Nat} (h : Blk w g t cs) (hb : w.grownBy w' row) (hg : some g ≠ row) : Blk w' g t cs := (hb.block g h.lt hg).trans h
theorem Blk.ne_ {g' : Nat} {t' : TypeId} {cs' : List Value} (h : Blk w g t cs) (h' : Blk w g' t' cs') (hne : t ≠ t') : g ≠ g' := by
  rintro rfl
  unfold Blk at h h'
  rw [h] at h'
  injection h' with h'
  injection h' with _ ht
  exact hne ht
theorem Blk.set_ (h : Blk w g t cs) (i : Nat) (u : Value) : Blk (w.setCell ⟨g, i, none⟩ u) g t (cs.set i u) := by
  unfold Blk at h ⊢
  simp [World.setCell, Array.getElem?_modify, h]
theorem grownBy_setCell (w : World) (g i : Nat) (u : Value) : w.grownBy (w.setCell ⟨g, i, none⟩ u) (some g) :=
  ⟨rfl, rfl, rfl, by simp [World.setCell], fun k _ hne => Below.heap_setCell w _ u k (fun e => hne (by rw [e]))⟩
theorem grownBy_trans {a b c : World} {row : Option Nat} (h : a.grownBy b row) (k : b.grownBy c row) : a.grownBy c row :=
  ⟨k.os.trans h.os, k.tape.trans h.tape, k.output.trans h.output, Nat.le_trans h.size k.size, fun i hi hne => (k.block i (Nat.lt_of_lt_of_le hi h.size) hne).trans (h.block i hi hne)⟩
theorem grownBy_of_below {a b : World} (h : Below a.heap.size a b) (row : Option Nat) : a.grownBy b row := ⟨h.os, h.tape, h.output, h.size, fun k hk _ => h.block k hk⟩
theorem grownBy_drew (w : World) (row : Option Nat) : w.grownBy w.drew row := ⟨rfl, rfl, rfl, Nat.le_refl _, fun _ _ _ => rfl⟩
theorem below_of_grownBy {B : Nat} {a b : World} {g : Nat} (h : a.grownBy b (some g)) (hB : B ≤ a.heap.size) (hg : B ≤ g) : Below B a b :=
  ⟨h.os, h.tape, h.output, h.size, fun k hk => h.block k (by omega) (fun e => by injection e with e; omega)⟩
theorem grownBy_new {a b c : World} {row : Option Nat} {j : Nat} (h : a.grownBy b row) (k : b.grownBy c (some j)) (hj : a.heap.size ≤ j) : a.grownBy c row :=
  ⟨k.os.trans h.os, k.tape.trans h.tape, k.output.trans h.output, Nat.le_trans h.size k.size, fun i hi hne => (k.block i (Nat.lt_of_lt_of_le hi h.size) (fun e => by injection e with e; omega)).trans (h.block i hi hne)⟩
/-- Bytes of the call's own do not lie in a block of another element type. -/
theorem Own.ne {B c : Nat} {A : Option Addr} {l : List UInt8} (h : Own w B A c l) (hB : Blk w g t cs) (ht : t ≠ 5) : blk A ≠ some g := by
  rcases h.2 with ⟨hv, _⟩ | ⟨g', cap, cur, hv, _, hh, _⟩
  · injection hv with hv; subst hv; simp [blk]
  · injection hv with hv; subst hv
    intro he
    have : g' = g := by simpa [blk] using he
    subst this
    unfold Blk at hB
    rw [hB] at hh
    injection hh with hh
    injection hh with _ hh
    exact ht hh
theorem Reads.grown {size n : Nat} {A : Option Addr} {xs : List Value} {row : Option Nat} (h : Reads w size A n xs) (hg : w.grownBy w' row) (hne : blk A = none ∨ blk A ≠ row) : Reads w' size A n xs :=
  ⟨h.1, fun hn => by
    obtain ⟨b, o, e, hc⟩ := h.2 hn
    refine ⟨b, o, e, fun j u hu => (World.cell?_of_block (hg.block b (block_lt_of_cell (hc j u hu)) (fun e2 => ?_))).trans (hc j u hu)⟩
    subst e
    rcases hne with h1 | h1
    · cases h1
    · exact h1 e2⟩
theorem Rd.grown {A : Option Addr} {l : List UInt8} {row : Option Nat} (h : Rd w A l) (hg : w.grownBy w' row) (hne : blk A = none ∨ blk A ≠ row) : Rd w' A l := Reads.grown h hg hne

theorem run_store_blk {j : Nat} {v : Value} (h : Blk w g t cs) (hj : j < cs.length) (h1 : v.oneCell' = true) : (store ⟨g, j, none⟩ v).run P w = .ok () (w.setCell ⟨g, j, none⟩ v) := by
  have hc := h.cell j
  rw [List.getElem?_eq_getElem hj] at hc
  have := run_store P w ⟨g, j, none⟩ v .plain h1
  rw [this]
  simp [hc, h.frozen j]

theorem run_storeCells_blk {o : Nat} : ∀ (vs : List Value) (i : Nat) (L : List Value) (w : World), Blk w g t L → (∀ v ∈ vs, v.oneCell' = true) → o + i + vs.length ≤ L.length →
    ∃ w', (storeCells ⟨g, o, none⟩ vs i).run P w = .ok () w' ∧ Blk w' g t (spl L (o + i) vs) ∧ w.grownBy w' (some g) ∧ w'.heap.size = w.heap.size
  | [], i, L, w, h, _, _ => ⟨w, by simp [storeCells], by simpa [spl] using h, World.grownBy.refl w _, rfl⟩
  | v :: vs, i, L, w, h, h1, hl => by
    simp only [List.length_cons] at hl
    have hs := run_store_blk (P := P) (j := o + i) h (by omega) (h1 v (by simp))
    obtain ⟨w', hr, hB, hg, hz⟩ := run_storeCells_blk (o := o) vs (i + 1) (L.set (o + i) v) (w.setCell ⟨g, o + i, none⟩ v) (h.set_ (o + i) v) (fun u hu => h1 u (by simp [hu])) (by simp; omega)
    refine ⟨w', ?_, ?_, grownBy_trans (grownBy_setCell w g (o + i) v) hg, by rw [hz]; simp [World.setCell]⟩
    · simp only [storeCells, add_plain, Sem.run_bind, hs, Result.andThen_ok]
      exact hr
    · have e : spl (L.set (o + i) v) (o + (i + 1)) vs = spl L (o + i) (v :: vs) := by
        have hlt : o + i < L.length := by omega
        simp only [spl, List.length_cons]
        rw [show o + (i + 1) = (o + i) + 1 from by omega, List.take_succ_eq_append_getElem (by simpa using hlt), List.take_set_of_le (Nat.le_refl _), List.drop_set_of_lt (by omega)]
        simp [Nat.add_comm, Nat.add_left_comm, Nat.add_assoc]
      rw [← e]
      exact hB
end

section
variable {P : Program} {fn : Func} {F : Ending → World → Prop} {N : Nat} {ks : List K} {ops : Array Oper} {tg : Tags} {l : List Oper} {fr : Fr} {w : World} {ty t t' : TypeId} {pos : String} {aft : Array Edge} {gd : Option (Nat × Bool)} {d g i j n o len cap : Nat} {x y : Operand} {cs : List Value} {v : Value}

theorem o_loadb (ha' : ∀ w, (isAgg t).run P w = .ok false w) (hx : fr.ev x = some (.pointer (some ⟨g, i, none⟩))) (hB : Blk w g t' cs) (hi : cs[i]? = some v) : OpV P N fr w (.load t x) ty v w :=
  o_load ha' hx (by rw [hB.cell]; exact hi)
/-- A whole array or struct, read out of its block. -/
theorem o_load_all (ha' : ∀ w, (isAgg t).run P w = .ok true w) (hs : ∀ w, (sizeOf t).run P w = .ok n w) (hx : fr.ev x = some (.pointer (some ⟨g, 0, none⟩))) (hB : Blk w g t' cs) (hn : cs.length = n) : OpV P N fr w (.load t x) ty (.agg cs.toArray) w :=
  o_loadn ha' (by rw [hn]; exact hs) hx (fun j u hu => by rw [add_plain, hB.cell, Nat.zero_add]; exact hu)

/-- One cell of a block is written. -/
theorem wl_store1 (hs : ∀ w, (sizeOf t).run P w = .ok 1 w) (hx : fr.ev x = some (.pointer (some ⟨g, i, none⟩))) (hy : fr.ev y = some v) (h1 : v.oneCell' = true) (hB : Blk w g t' cs) (hi : i < cs.length)
    (hk : ∀ w', Blk w' g t' (cs.set i v) → w.grownBy w' (some g) → w'.heap.size = w.heap.size → WL P fn F N ks ops tg.tail l fr w') (ht : tg.loud = true := by rfl) (hg : onG ops fr gd = true := by rfl) (hq : tg.calm = false ∨ tg.rw.may (some g) := by exact .inl rfl) :
    WL P fn F N ks ops tg (⟨none, .store t x y, ty, pos, aft, gd⟩ :: l) fr w := by
  have hc := hB.cell i
  rw [List.getElem?_eq_getElem hi] at hc
  exact wl_u (o_store hs hx hy h1 hc (hB.frozen i)) (hk _ (hB.set_ i v) (grownBy_setCell w g i v) (by simp [World.setCell])) ht hg (hq.imp id (Rw.of_may (grownBy_setCell w g i v)))
/-- An array or a struct is written into a block. -/
theorem wl_storen {vs : List Value} (hs : ∀ w, (sizeOf t).run P w = .ok n w) (hx : fr.ev x = some (.pointer (some ⟨g, o, none⟩))) (hy : fr.ev y = some (.agg vs.toArray)) (hn : vs.length = n) (h1 : ∀ v ∈ vs, v.oneCell' = true) (hB : Blk w g t' cs) (hi : o + n ≤ cs.length)
    (hk : ∀ w', Blk w' g t' (spl cs o vs) → w.grownBy w' (some g) → w'.heap.size = w.heap.size → WL P fn F N ks ops tg.tail l fr w') (ht : tg.loud = true := by rfl) (hg : onG ops fr gd = true := by rfl) (hq : tg.calm = false ∨ tg.rw.may (some g) := by exact .inl rfl) :
    WL P fn F N ks ops tg (⟨none, .store t x y, ty, pos, aft, gd⟩ :: l) fr w := by
  obtain ⟨w', hr, hB', hg', hz⟩ := run_storeCells_blk (P := P) (o := o) vs 0 cs w hB h1 (by omega)
  refine wl_u (w' := w') (fun a ha op hop => ?_) (hk w' hB' hg' hz) ht hg (hq.imp id (Rw.of_may hg'))
  have hcs : (Value.agg vs.toArray).cells = vs.toArray := rfl
  simp [execOp, hop, ha.ev hx, ha.ev hy, Instr.storeAt, Instr.sureAddr, storeVar, hcs, hs, hn, hr]
/-- The whole of a block is written. -/
theorem wl_store_all {vs : List Value} (hs : ∀ w, (sizeOf t).run P w = .ok n w) (hx : fr.ev x = some (.pointer (some ⟨g, 0, none⟩))) (hy : fr.ev y = some (.agg vs.toArray)) (hn : vs.length = n) (h1 : ∀ v ∈ vs, v.oneCell' = true) (hB : Blk w g t' cs) (hi : cs.length = n)
    (hk : ∀ w', Blk w' g t' vs → w.grownBy w' (some g) → w'.heap.size = w.heap.size → WL P fn F N ks ops tg.tail l fr w') (ht : tg.loud = true := by rfl) (hg : onG ops fr gd = true := by rfl) (hq : tg.calm = false ∨ tg.rw.may (some g) := by exact .inl rfl) :
    WL P fn F N ks ops tg (⟨none, .store t x y, ty, pos, aft, gd⟩ :: l) fr w :=
  wl_storen hs hx hy hn h1 hB (by omega) (fun w' h2 h3 h4 => hk w' (by rw [spl_all (by omega)] at h2; exact h2) h3 h4) ht hg hq

/-- A new variable. -/
theorem o_alloc {e : TypeId} {z : Value} (hz : ∀ w, (zeroValue e).run P w = .ok z w) : OpV P N fr w (.alloc e) ty (.pointer (some ⟨w.heap.size, 0, none⟩)) (w.alloc (.cells z.cells e)) := fun a _ o ho _ => by
  simp [execOp, ho, Instr.alloc, newVar, newRow, newObj, Sem.run, hz]

theorem below_alloc (w : World) (o : Obj) : Below w.heap.size w (w.alloc o) := (Below.refl _ _).alloc (Nat.le_refl _) o
theorem wl_alloc {e : TypeId} {z : Value} (zs : List Value) (hz : ∀ w, (zeroValue e).run P w = .ok z w) (hzs : z.cells = zs.toArray)
    (hk : ∀ w', Blk w' w.heap.size e zs → Below w.heap.size w w' → w'.heap.size = w.heap.size + 1 → WL P fn F N ks ops tg.tail l ((d, .pointer (some ⟨w.heap.size, 0, none⟩)) :: fr) w')
    (ht : tg.loud = true := by rfl) (hg : onG ops fr gd = true := by rfl) (hd : Nat.blt d N = true := by rfl) : WL P fn F N ks ops tg (⟨some d, .alloc e, ty, pos, aft, gd⟩ :: l) fr w :=
  wl_v (o_alloc hz) (hk _ (by rw [hzs]; exact Blk.new w e zs.toArray) (below_alloc w _) (by simp)) ht hg hd (.inr (grown_of_below (below_alloc w _) _))
theorem wl_box {e : TypeId} (vs : List Value) (hx : fr.ev x = some v) (hvs : v.cells = vs.toArray)
    (hk : ∀ w', Blk w' w.heap.size e vs → Below w.heap.size w w' → w'.heap.size = w.heap.size + 1 → WL P fn F N ks ops tg.tail l ((d, .pointer (some ⟨w.heap.size, 0, none⟩)) :: fr) w')
    (ht : tg.loud = true := by rfl) (hg : onG ops fr gd = true := by rfl) (hd : Nat.blt d N = true := by rfl) : WL P fn F N ks ops tg (⟨some d, .box e x, ty, pos, aft, gd⟩ :: l) fr w :=
  wl_v (o_box hx) (hk _ (by rw [hvs]; exact Blk.new w e vs.toArray) (below_alloc w _) (by simp)) ht hg hd (.inr (grown_of_below (below_alloc w _) _))
/-! A slice literal whose elements are one cell each, in order. -/
theorem fill_range {place : Nat → Option (Nat × Nat)} (hp : ∀ i, place i = some (i * 1, 1)) : ∀ (vs : List Value) (k : Nat) (cells : List Value), (∀ v ∈ vs, v.oneCell' = true) → k + vs.length = cells.length →
    Instr.fill place cells.toArray ((List.range' k vs.length).zip vs) = some (cells.take k ++ vs).toArray
  | [], k, cells, _, hl => by
    simp only [List.length_nil, Nat.add_zero] at hl
    simp [Instr.fill, hl]
  | v :: vs, k, cells, h1, hl => by
    simp only [List.length_cons] at hl
    have hv : v.cells = #[v] := by
      have := h1 v (by simp)
      cases v <;> first | rfl | cases this
    have ih := fill_range hp vs (k + 1) (cells.set k v) (fun u hu => h1 u (by simp [hu])) (by simp; omega)
    simp only [List.length_cons, List.range'_succ, List.zip_cons_cons, Instr.fill, hp, hv]
    rw [if_neg (by simp; omega)]
    have e : (#[v].zipIdx.foldl (fun (cs : Array Value) (x : Value × Nat) => cs.setIfInBounds (k * 1 + x.2) x.1) cells.toArray) = (cells.set k v).toArray := by simp
    have e2 : (#[v].zipIdx.foldl (fun cs (x : Value × Nat) => match x with | (c, j) => cs.setIfInBounds (k * 1 + j) c) cells.toArray) = (cells.set k v).toArray := by simp
    rw [show List.take k cells ++ v :: vs = List.take (k + 1) (cells.set k v) ++ vs from ?_]
    · first | (rw [e2]; exact ih) | (rw [e]; exact ih) | (simpa using ih)
    · rw [List.take_succ_eq_append_getElem (by simp; omega), List.take_set_of_le (Nat.le_refl _)]; simp
theorem run_lit {e : TypeId} {z : Value} (hu : P.underlying t = some (.slice e)) (hs : ∀ w, (sizeOf e).run P w = .ok 1 w) (hz : ∀ w, (zeroValue e).run P w = .ok z w) (h0 : z.cells.size = 1) (vs : List Value) (h1 : ∀ v ∈ vs, v.oneCell' = true) (hn : vs.length ≤ 16777216) :
    (Instr.buildSlice t vs.length ((List.range' 0 vs.length).zip vs).toArray).run P w = .ok (.slice (some ⟨w.heap.size, 0, none⟩) vs.length vs.length) (w.alloc (.cells vs.toArray e)) := by
  have hf : ∀ (cells : Array Value), cells.size = vs.length → Instr.fill (fun i => some (i * 1, 1)) cells ((List.range' 0 vs.length).zip vs) = some vs.toArray := fun cells hc => by
    have := fill_range (place := fun i => some (i * 1, 1)) (fun _ => rfl) vs 0 cells.toList h1 (by simp [hc])
    simpa using this
  have hn' : ¬ (16777216 < vs.length) := by omega
  by_cases hv : vs.length = 0
  · have hv' : vs = [] := List.eq_nil_of_length_eq_zero hv
    subst hv'
    simp [Instr.buildSlice, run_underlying hu, hs, Instr.fill, newRow, newObj, Sem.run, show Array.range 0 = #[] from rfl]
  · simp [Instr.buildSlice, run_underlying hu, hs, hz, hn', hv, newRow, newObj, Sem.run]
    have h2 := hf (Array.map (fun x => z.cells[x % z.cells.size]!) (Array.range vs.length)) (by simp)
    simp only [Nat.mul_one] at h2
    simp [h2, newRow, newObj, Sem.run]
/-- A slice literal of bytes. -/
theorem wl_lit8 {xs : List Operand} (bs : List UInt8) (T : U8 P t) (hs : ∀ w, (sizeOf 5).run P w = .ok 1 w) (hz : ∀ w, (zeroValue 5).run P w = .ok (.int .u8 0) w) (hx : fr.evs xs = some (B8 bs)) (hm : Nat.ble bs.length 1000000 = true)
    (hk : ∀ w', Own w' w.heap.size (some ⟨w.heap.size, 0, none⟩) bs.length bs → Below w.heap.size w w' → w'.heap.size = w.heap.size + 1 → WL P fn F N ks ops tg.tail l ((d, .slice (some ⟨w.heap.size, 0, none⟩) bs.length bs.length) :: fr) w')
    (ht : tg.loud = true := by rfl) (hg : onG ops fr gd = true := by rfl) (hd : Nat.blt d N = true := by rfl) : WL P fn F N ks ops tg (⟨some d, .buildSlice t bs.length ((List.range' 0 bs.length).zip xs).toArray, ty, pos, aft, gd⟩ :: l) fr w := by
  have hm' : bs.length ≤ 1000000 := by simpa using hm
  have hr := run_lit (P := P) (w := w) T.ht hs hz rfl (B8 bs) (B8_oneCell _) (by rw [B8_length]; omega)
  rw [B8_length] at hr
  exact wl_v (o_lit hx hr) (hk _ (own_lit w (Nat.le_refl _) bs _ rfl (by simp only [maxLen]; omega)) (below_alloc w _) (by simp)) ht hg hd (.inr (grown_of_below (below_alloc w _) _))

theorem B8_oneCell' (l : List UInt8) : ∀ v ∈ B8 l, v.oneCell' = true := B8_oneCell l
/-- The empty slice literal. -/
theorem own_empty (w : World) {B : Nat} (hB : B ≤ w.heap.size) (cs : Array Value) (h : cs = #[]) : Own (w.alloc (.cells cs 5)) B (some ⟨w.heap.size, 0, none⟩) 0 [] := own_lit w hB [] cs (by rw [h]; rfl) (by simp [maxLen])

/-- 'slice to array': the address. -/
theorem o_arrptr {e : TypeId} {A : Option Addr} (hu : P.underlying t = some (.array n e)) (hx : fr.ev x = some (.slice A len cap)) (h : n ≤ len) : OpV P N fr w (.sliceToArrayPointer t x) ty (.pointer A) w := fun a ha o ho _ => by
  have : ¬ len < n := by omega
  simp [execOp, ho, ha.ev hx, Instr.arrayAt, run_underlying hu, this]
/-- 'a[:]' of an array in a variable. -/
theorem o_slice_arr {e : TypeId} {ad : Addr} (hu : P.underlying t = some (.array n e)) (hs : ∀ w, (sizeOf e).run P w = .ok 1 w) (hx : fr.ev x = some (.pointer (some ad))) : OpV P N fr w (.slice t x none none none) ty (.slice (some ad) n n) w := fun a ha o ho _ => by
  simp [execOp, ho, ha.ev hx, Instr.sliceAt, Instr.sureAddr, run_underlying hu, Instr.sliceBounds, hs, Addr.add]

/-- '==' on arrays of bytes. -/
theorem o_aeq {e : TypeId} {xs ys : List UInt8} (hu : P.underlying t = some (.array n e)) (he : P.underlying e = some (.int .u8)) (hs : ∀ w, (sizeOf e).run P w = .ok 1 w) (hm : P.eqGuardType P.depth t = false)
    (hx : fr.ev x = some (.agg (B8 xs).toArray)) (hy : fr.ev y = some (.agg (B8 ys).toArray)) (h1 : xs.length = n) (h2 : ys.length = n) : OpV P N fr w (.binOp .eql t x y t') ty (.bool (decide (xs = ys))) w := fun a ha o ho _ => by
  have hr := run_eql_bytes (P := P) (w := w) t e n hu he hs xs ys h1 h2
  have hg := run_eqGuard_agg (P := P) (w := w) .eql t x y (B8 xs).toArray (B8 ys).toArray hm
  have hr' : (binOp .eql t (.agg (B8 xs).toArray) (.agg (B8 ys).toArray)).run P w = .ok (.bool (decide (xs = ys))) w := by
    have e : (xs == ys) = decide (xs = ys) := by rw [Bool.eq_iff_iff]; simp
    rw [← e]; exact hr
  simp [execOp, ho, ha.ev hx, ha.ev hy, hg, hr']
theorem o_ane {e : TypeId} {xs ys : List UInt8} (hu : P.underlying t = some (.array n e)) (he : P.underlying e = some (.int .u8)) (hs : ∀ w, (sizeOf e).run P w = .ok 1 w) (hm : P.eqGuardType P.depth t = false)
    (hx : fr.ev x = some (.agg (B8 xs).toArray)) (hy : fr.ev y = some (.agg (B8 ys).toArray)) (h1 : xs.length = n) (h2 : ys.length = n) : OpV P N fr w (.binOp .neq t x y t') ty (.bool (decide (xs ≠ ys))) w := fun a ha o ho _ => by
  have hr := run_equalIn_bytes (P := P) (w := w) 9998 t e n hu he hs xs ys h1 h2
  have hg := run_eqGuard_agg (P := P) (w := w) .neq t x y (B8 xs).toArray (B8 ys).toArray hm
  have hr' : (binOp .neq t (.agg (B8 xs).toArray) (.agg (B8 ys).toArray)).run P w = .ok (.bool (decide (xs ≠ ys))) w := by
    have e : (!(xs == ys)) = decide (xs ≠ ys) := by rw [Bool.eq_iff_iff]; simp
    rw [run_neq_struct, ← e]
    exact congrArg (fun r => Result.andThen r fun b w' => Result.ok (Value.bool (!b)) w') hr
  simp [execOp, ho, ha.ev hx, ha.ev hy, hg, hr']

theorem o_compl8 {n : Int} (hx : fr.ev x = some (.int .u8 n)) : OpV P N fr w (.unOp .xor t x) ty (.int .u8 (bits .xor .u8 255 n)) w := fun a ha o ho _ => by
  simp [execOp, ho, ha.ev hx, Op.unary, Op.intBits]
  rfl

/-- A result that lies in a variable of its own. -/
theorem ret_cell {p : Nat} {R : Value → World → Prop} (h : fn.results = #[.cell p t]) (hp : fr.get p = some (.pointer (some ⟨g, 0, none⟩))) (ha' : ∀ w, (isAgg t).run P w = .ok true w) (hs : ∀ w, (sizeOf t).run P w = .ok n w) (hB : Blk w g t' cs) (hn : cs.length = n)
    (hR : R (.agg cs.toArray) w) : RK P fn (fun e w' => ∃ v, e = .returned v ∧ R v w') N (.code .ret :: ks) fr w :=
  rk_ret (F := fun e w' => ∃ v, e = .returned v ∧ R v w') (fun a ha => ⟨.agg cs.toArray, by
    have hp' : a.tmps[p]?.getD undef = .pointer (some ⟨g, 0, none⟩) := by rw [ha.get p _ hp]; rfl
    subst hn
    have hl : (loadCells ⟨g, 0, none⟩ cs.length).run P w = .ok cs.toArray w := run_loadCells_list (P := P) w ⟨g, 0, none⟩ cs (fun j u hu => by rw [add_plain, hB.cell, Nat.zero_add]; exact hu)
    simp [results, h, hp', asAddr, loadVar, ha', hs, hl], ⟨_, rfl, hR⟩⟩)
end

/-! copy. -/
section
variable {P : Program} {fn : Func} {F : Ending → World → Prop} {N : Nat} {ks : List K} {ops : Array Oper} {tg : Tags} {l : List Oper} {fr : Fr} {w : World} {ty t t' t2 : TypeId} {pos : String} {aft : Array Edge} {gd : Option (Nat × Bool)} {d g o n c m k : Nat} {x y : Operand} {cs : List Value}
theorem run_firstCells {A : Option Addr} {s : List UInt8} (hr : Rd w A s) {q : Nat} (hq : q ≤ s.length) : (Builtin.firstCells 1 q (.slice A s.length k)).run P w = .ok (B8 (s.take q)).toArray w := by
  rcases Nat.eq_zero_or_pos q with h0 | h0
  · subst h0; cases A <;> simp [Builtin.firstCells, B8, loadCells, loadCellsFrom]
  · have hne : s ≠ [] := by intro e; subst e; simp at hq; omega
    obtain ⟨b, o, rfl, _, hc⟩ := hr.at_ hne
    have := run_loadCells_list (P := P) w ⟨b, o, none⟩ (B8 (s.take q)) (fun j u hu => by
      have hj : j < (s.take q).length := by
        rcases Nat.lt_or_ge j (s.take q).length with h | h
        · exact h
        · rw [List.getElem?_eq_none (by rw [B8_length]; exact h)] at hu; cases hu
      rw [B8_get _ _ hj] at hu
      have hj' : j < s.length := by simp at hj; omega
      rw [add_plain, hc j hj', ← hu]
      simp)
    rw [B8_length, List.length_take, Nat.min_eq_left hq] at this
    simp [Builtin.firstCells, this]
theorem wl_copy (T : U8 P t) {A : Option Addr} {s : List UInt8} (hx : fr.ev x = some (.slice (some ⟨g, o, none⟩) n c)) (hy : fr.ev y = some (.slice A m k)) (hm : m = s.length) (hr : Rd w A s) (hB : Blk w g t' cs) (hi : o + n ≤ cs.length)
    (h : ∀ w', Blk w' g t' (spl cs o (B8 (s.take n))) → w.grownBy w' (some g) → w'.heap.size = w.heap.size → WL P fn F N ks ops tg.tail l ((d, .int .i64 (min m n : Nat)) :: fr) w')
    (ht : tg.loud = true := by rfl) (hg : onG ops fr gd = true := by rfl) (hd : Nat.blt d N = true := by rfl) (hq : tg.calm = false ∨ some g = tg.row := by exact .inl rfl) :
    WL P fn F N ks ops tg (⟨some d, .call { callee := .builtin .copy, args := #[x, y], argTypes := #[t, t2] }, ty, pos, aft, gd⟩ :: l) fr w := by
  subst hm
  obtain ⟨i, hi', hz, hsz, hb⟩ := info_parts T.hi
  have hf := run_firstCells (P := P) (k := k) hr (q := min s.length n) (Nat.min_le_left _ _)
  have htk : s.take (min s.length n) = s.take n := by
    rcases Nat.le_total s.length n with h1 | h1
    · rw [Nat.min_eq_left h1, List.take_of_length_le (Nat.le_refl _), List.take_of_length_le h1]
    · rw [Nat.min_eq_right h1]
  rw [htk] at hf
  obtain ⟨w', hst, hB', hg', hz'⟩ := run_storeCells_blk (P := P) (o := o) (B8 (s.take n)) 0 cs w hB (B8_oneCell _) (by rw [B8_length, List.length_take]; omega)
  refine wl_v (w' := w') (o_builtin (xs := [x, y]) (vs := [.slice (some ⟨g, o, none⟩) n c, .slice A s.length k]) (by simp [Fr.evs, hx, hy]) ?_ (by simp)) (h w' hB' hg' hz') ht hg hd (hq.imp id fun (e : some g = tg.row) => e ▸ hg')
  have hmin : Nat.min s.length n = min s.length n := rfl
  simp [builtin, Builtin.copy_, run_underlying T.ht, sizeOf, typeInfo, hi', hsz, Builtin.lenOf, hmin, hf, hst]
  rfl
end
end Go.Proofs.Ytpjedpmbninfcaa
