/-
  Rows of elements of any size: literals, append, parts; results of a cell and a slot; calls of function values.
-/
import Derived.Test.YtnnhenafhalobaaGreatMg1
import Derived.Deep.Slices
import Derived.OpenShut
import Derived.Maps.OwnSet
import Derived.Carry
import Derived.Laws.Bits64b
namespace Go.Proofs.YtnnhenafhalobaaGreat
set_option maxRecDepth 100000
open Go.RowKit

theorem foldl_set (o : Nat) : ∀ (vs : List Value) (i : Nat) (L : List Value), o + i + vs.length ≤ L.length →
  (vs.zipIdx i).foldl (fun (cs : Array Value) (x : Value × Nat) => cs.setIfInBounds (o + x.2) x.1) L.toArray = (spl L (o + i) vs).toArray
 | [], i, L, _ => by simp [spl]
 | v :: vs, i, L, hl => by
  simp only [List.length_cons] at hl
  rw [List.zipIdx_cons, List.foldl_cons]
  have ih := foldl_set o vs (i + 1) (L.set (o + i) v) (by simp; omega)
  simp only [List.setIfInBounds_toArray]
  rw [ih]
  congr 1
  have hlt : o + i < L.length := by omega
  simp only [spl, List.length_cons]
  rw [show o + (i + 1) = (o + i) + 1 from by omega, List.take_succ_eq_append_getElem (by simpa using hlt), List.take_set_of_le (Nat.le_refl _), List.drop_set_of_lt (by omega)]
  simp [Nat.add_comm, Nat.add_left_comm, Nat.add_assoc]
theorem fill_rangen {sz : Nat} {place : Nat → Option (Nat × Nat)} (hp : ∀ i, place i = some (i * sz, sz)) : ∀ (vs : List Value) (k : Nat) (cells : List Value), (∀ v ∈ vs, v.cells.size = sz) → (k + vs.length) * sz = cells.length →
  Instr.fill place cells.toArray ((List.range' k vs.length).zip vs) = some (cells.take (k * sz) ++ vs.flatMap fun v => v.cells.toList).toArray
 | [], k, cells, _, hl => by
  simp only [List.length_nil, Nat.add_zero] at hl
  simp [Instr.fill, hl]
 | v :: vs, k, cells, h1, hl => by
  have hv := h1 v (by simp)
  have hlen : k * sz + sz ≤ cells.length := by
   rw [← hl, List.length_cons, Nat.add_mul, Nat.add_mul]; omega
  have hsp := spl_length (L := cells) (vs := v.cells.toList) (k := k * sz) (by simp [hv]; omega)
  have ih := fill_rangen hp vs (k + 1) (spl cells (k * sz) v.cells.toList) (fun u hu => h1 u (by simp [hu])) (by rw [hsp, ← hl, List.length_cons]; congr 1; omega)
  simp only [List.length_cons, List.range'_succ, List.zip_cons_cons, Instr.fill, hp]
  rw [if_neg (by simp [hv]; omega)]
  have hf := foldl_set (k * sz) v.cells.toList 0 cells (by simp [hv]; omega)
  have e : v.cells.zipIdx.foldl (fun cs (x : Value × Nat) => match x with | (c, j) => cs.setIfInBounds (k * sz + j) c) cells.toArray = (spl cells (k * sz) v.cells.toList).toArray := by
   rw [← Array.foldl_toList, Array.toList_zipIdx]
   exact hf
  rw [e, ih]
  congr 2
  rw [List.flatMap_cons, ← List.append_assoc]
  congr 1
  rw [Nat.add_mul, Nat.one_mul, spl, List.take_append_of_le_length (by simp; omega)]
  have h5 : (List.take (k * sz) cells ++ v.cells.toList).length = k * sz + sz := by rw [List.length_append, List.length_take, Nat.min_eq_left (by omega)]; simp [hv]
  rw [← h5, List.take_length]
theorem run_litn {P : Program} {w : World} {t e : TypeId} {z : Value} {sz : Nat} (hu : P.underlying t = some (.slice e)) (hs : ∀ w, (sizeOf e).run P w = .ok sz w) (hz : ∀ w, (zeroValue e).run P w = .ok z w) (vs : List Value) (h1 : ∀ v ∈ vs, v.cells.size = sz) (hn : vs.length * sz ≤ 16777216) :
  (Instr.buildSlice t vs.length ((List.range' 0 vs.length).zip vs).toArray).run P w = .ok (.slice (some ⟨w.heap.size, 0, none⟩) vs.length vs.length) (w.alloc (.cells (vs.flatMap fun v => v.cells.toList).toArray e)) := by
 have hf : ∀ (cells : Array Value), cells.size = vs.length * sz → Instr.fill (fun i => some (i * sz, sz)) cells ((List.range' 0 vs.length).zip vs) = some (vs.flatMap fun v => v.cells.toList).toArray := fun cells hc => by
  have := fill_rangen (place := fun i => some (i * sz, sz)) (fun _ => rfl) vs 0 cells.toList h1 (by simp [hc])
  simpa using this
 have hn' : ¬ (16777216 < vs.length * sz) := by omega
 by_cases hv : vs.length * sz = 0
 ·have h2 := hf #[] (by simp [hv])
  simp [Instr.buildSlice, run_underlying hu, hs, hv, newRow, newObj, Sem.run, show Array.range 0 = #[] from rfl, h2]
 ·have h2 := hf (Array.map (fun x => z.cells[x % z.cells.size]!) (Array.range (vs.length * sz))) (by simp)
  simp [Instr.buildSlice, run_underlying hu, hs, hz, hn', hv, newRow, newObj, Sem.run, h2]

structure RowT (P : Program) (t e : TypeId) (z : Value) (sz bytes : Nat) : Prop where
 ht : P.underlying t = some (.slice e)
 hi : (P.info? e).map (fun i => (i.zero, i.size, i.bytes)) = some (some z, sz, bytes)
 hz : z.cells.size = sz
 h0 : 0 < sz

section
variable {w w' : World} {sz n : Nat} {A : Option Addr} {xs : List Value}
theorem Reads.cutn (h : Reads w sz A n xs) {k m cap : Nat} (hk : k ≤ n) (hc : n ≤ cap) (hm : m = n - k) : Reads w sz (cutA A cap sz k) m (xs.drop (k * sz)) := by
 subst hm
 have hl := h.1
 refine ⟨by rw [List.length_drop, hl, Nat.sub_mul], fun hn => ?_⟩
 have hkn : k * sz < xs.length := by
  rcases Nat.lt_or_ge (k * sz) xs.length with h1 | h1
  ·exact h1
  ·exact absurd (List.drop_eq_nil_of_le h1) hn
 obtain ⟨b, o, rfl, hcell⟩ := h.2 (by intro e; rw [e] at hkn; simp at hkn)
 have hkn' : k < n := by
  rw [hl] at hkn
  exact Nat.lt_of_mul_lt_mul_right hkn
 unfold cutA
 rw [if_neg (by omega)]
 refine ⟨b, o + k * sz, by simp [add_plain], fun j u hu => ?_⟩
 rw [Nat.add_assoc]
 exact hcell _ u (by rw [← hu, List.getElem?_drop])
end

section
variable {P : Program} (w : World)
end

section
variable {P : Program} {fn : Func} {F : Ending → World → Prop} {N : Nat} {ks : List K} {ops : Array Oper} {tg : Tags} {l : List Oper} {fr : Fr} {w : World} {ty t t2 e : TypeId} {z : Value} {sz bytes : Nat} {pos : String} {aft : Array Edge} {gd : Option (Nat × Bool)} {d g : Nat} {x y k : Operand}
theorem wl_appn (T : RowT P t e z sz bytes) {B : Nat} {A X : Option Addr} {n c j q : Nat} {xs ms : List Value} (hx : fr.ev x = some (.slice A n c)) (hown : w.ownsRow B e sz (.slice A n c) n xs) (hy : fr.ev y = some (.slice X j q)) (hr : Reads w sz X j ms) (h1 : ∀ u ∈ ms, u.oneCell' = true)
  (h63 : n + j ≤ maxLen) (hlen : (n + j) * bytes ≤ 140737488355328) (hB : B ≤ w.heap.size)
  (h : ∀ A' c' w', w'.ownsRow B e sz (.slice A' (n + j) c') (n + j) (xs ++ ms) → w.grownBy w' (blk A) → (blk A' = blk A ∨ blk A' = some w.heap.size) → Below B w w' → WL P fn F N ks ops tg.tail l ((d, .slice A' (n + j) c') :: fr) w')
  (ht : tg.loud = true := by rfl) (hg : onG ops fr gd = true := by rfl) (hd : Nat.blt d N = true := by rfl) (hq : tg.calm = false ∨ blk A = none ∨ blk A = tg.row := by exact .inl rfl) :
  WL P fn F N ks ops tg (⟨some d, .call { callee := .builtin .append, args := #[x, y], argTypes := #[t, t] }, ty, pos, aft, gd⟩ :: l) fr w := by
 obtain ⟨i, hi, hz, hs, hb⟩ := info_parts T.hi
 obtain ⟨v', w', hrun, h2, h3, h4⟩ := run_append_any (P := P) w B t ty e i z sz bytes T.ht hi hz hs hb T.hz T.h0 (.slice A n c) n xs hown X j q ms hr h1 h63 hlen hB
 obtain ⟨A', c', rfl⟩ := ownsRow_shape h2
 rw [blk_own] at h3 h4
 rw [blk_own] at h4
 have hlt : ∀ b, blk A = some b → B ≤ b ∧ b < w.heap.size := fun b hb => World.ownsRow.lt hown b (by rw [blk_own]; exact hb)
 exact wl_v (o_builtin (xs := [x, y]) (vs := [.slice A n c, .slice X j q]) (by simp [Fr.evs, hx, hy]) (by simp [builtin, hrun]) (by simp)) (h A' c' w' h2 h3 h4 ((Below.refl B w).grown h3 hB (fun b hb => (hlt b hb).1))) ht hg hd
  (hq.imp id fun e => e.elim (fun e => grown_wide (e ▸ h3) _) (fun e => e ▸ h3))
theorem wl_litn {xs : List Operand} {vs : List Value} (T : RowT P t e z sz bytes) (hs : ∀ w, (sizeOf e).run P w = .ok sz w) (hz : ∀ w, (zeroValue e).run P w = .ok z w) (n : Nat) (hx : fr.evs xs = some vs) (hn : vs.length = n) (h1 : ∀ v ∈ vs, v.cells.size = sz) (hm : Nat.ble (n * sz) 1000000 = true)
  (hk : ∀ w', (∀ B, B ≤ w.heap.size → w'.ownsRow B e sz (.slice (some ⟨w.heap.size, 0, none⟩) n n) n (vs.flatMap fun v => v.cells.toList)) → Below w.heap.size w w' → w'.heap.size = w.heap.size + 1 → WL P fn F N ks ops tg.tail l ((d, .slice (some ⟨w.heap.size, 0, none⟩) n n) :: fr) w')
  (ht : tg.loud = true := by rfl) (hg : onG ops fr gd = true := by rfl) (hd : Nat.blt d N = true := by rfl) : WL P fn F N ks ops tg (⟨some d, .buildSlice t n ((List.range' 0 n).zip xs).toArray, ty, pos, aft, gd⟩ :: l) fr w := by
 subst hn
 have hm' : vs.length * sz ≤ 1000000 := by simpa using hm
 have hr := run_litn (P := P) (w := w) T.ht hs hz vs h1 (by omega)
 have hfl : (vs.flatMap fun v => v.cells.toList).length = vs.length * sz := by
  clear hr hm hm' hk hx
  induction vs with
  | nil => simp
  | cons v vs ih => simp only [List.flatMap_cons, List.length_append, List.length_cons, Array.length_toList, h1 v (by simp), ih (fun u hu => h1 u (by simp [hu])), Nat.add_mul]; omega
 have hlen : vs.length ≤ 1000000 := by
  have h0 := T.h0
  exact Nat.le_trans (Nat.le_mul_of_pos_right _ h0) hm'
 exact wl_v (o_lit hx hr) (hk _ (fun B hB => ⟨hfl, .inr ⟨w.heap.size, vs.length, _, rfl, hB, heap_alloc_new w _, Nat.le_refl _, by simp only [maxLen]; omega, by simpa using hfl, by rw [← hfl]; exact List.take_length⟩⟩) (below_alloc w _) (by simp)) ht hg hd (.inr (grown_of_below (below_alloc w _) _))
theorem o_makeFunc {f : FuncId} {xs : List Operand} {vs : List Value} (hx : fr.evs xs = some vs) : OpV P N fr w (.makeFunc (.func f) #[] xs.toArray) ty (.func (.func f) #[] vs.toArray) w := fun a ha o ho _ => by
 have hargs : Array.map a.eval xs.toArray = vs.toArray := by rw [List.map_toArray, ha.evs hx]
 simp [execOp, ho, hargs, Instr.makeFunc]
end
end Go.Proofs.YtnnhenafhalobaaGreat
namespace Go.Proofs.YtnnhenafhalobaaGreat
set_option maxRecDepth 100000
open Go.RowKit

theorem drew_size (w : World) : w.drew.heap.size = w.heap.size := rfl

theorem oneCell_of {vs : List Value} (h : vs.all (fun v => v.oneCell') = true) : ∀ v ∈ vs, v.oneCell' = true := List.all_eq_true.1 h

/-! Frames that go on from a frame that was there. -/
def Fr.le (fr0 fr : Fr) : Prop := ∀ t v, fr0.get t = some v → fr.get t = some v
theorem Rep.le {N : Nat} {a : Act} {fr fr0 : Fr} (h : Rep N a fr) (hl : Fr.le fr0 fr) : Rep N a fr0 := ⟨h.size, h.defers, fun t v hv => h.get t v (hl t v hv)⟩
theorem Fr.get_of_sub {fr : Fr} : ∀ {c : Fr}, Fr.sub c fr → ∀ t v, c.get t = some v → fr.get t = some v
 | [], _, t, v, h => by cases h
 | (k, u) :: r, hs, t, v, h => by
  rw [Fr.get_cons] at h
  by_cases e : k = t
  ·subst e
   rw [if_pos rfl] at h
   injection h with h
   subst h
   exact hs.1
  ·rw [if_neg e] at h
   exact Fr.get_of_sub hs.2 t v h
theorem Fr.le_of_sub {c fr : Fr} (h : Fr.sub c fr) : Fr.le c fr := Fr.get_of_sub h
def inN (t : Nat) : List Nat → Bool
 | [] => false
 | k :: l => bif Nat.beq k t then true else inN t l
theorem Fr.get_append (c fb : Fr) (t : Nat) : (c ++ fb).get t = match c.get t with
  | some v => some v
  | none => fb.get t := by
 induction c with
 | nil => rfl
 | cons p c ih =>
  obtain ⟨k, u⟩ := p
  rw [List.cons_append, Fr.get_cons, Fr.get_cons]
  by_cases e : k = t
  ·rw [if_pos e, if_pos e]
  ·rw [if_neg e, if_neg e, ih]
theorem Fr.get_none_iff (c : Fr) (t : Nat) : c.get t = none ↔ inN t (c.map Prod.fst) = false := by
 induction c with
 | nil => simp [Fr.get, inN]
 | cons p c ih =>
  obtain ⟨k, u⟩ := p
  show (bif Nat.beq k t then some u else Fr.get c t) = none ↔ (bif Nat.beq k t then true else inN t (c.map Prod.fst)) = false
  cases Nat.beq k t with
  | true => simp
  | false => simpa using ih
def okSlots (c fb : List Nat) : List Nat → Bool
 | [] => true
 | t :: l => (inN t c || !inN t fb) && okSlots c fb l
theorem okSlots_spec {c fb : List Nat} : ∀ {l : List Nat}, okSlots c fb l = true → ∀ t, inN t l = true → inN t c = true ∨ inN t fb = false
 | [], _, t, h => by cases h
 | k :: l, hk, t, h => by
  unfold okSlots at hk
  simp only [Bool.and_eq_true, Bool.or_eq_true, Bool.not_eq_true'] at hk
  have h' : (bif Nat.beq k t then true else inN t l) = true := h
  cases hb : Nat.beq k t with
  | true => rw [← Nat.eq_of_beq_eq_true hb]; exact hk.1
  | false => rw [hb] at h'; exact okSlots_spec hk.2 t h'
theorem Fr.le_of {c fb fr : Fr} (hb : fr.drop (fr.length - fb.length) = fb) (hs : okSlots (c.map Prod.fst) (fb.map Prod.fst) ((fr.take (fr.length - fb.length)).map Prod.fst) = true) (hc : Fr.sub c fr) : Fr.le (c ++ fb) fr := fun t v h => by
 rw [Fr.get_append] at h
 cases hct : c.get t with
 | some u =>
  rw [hct] at h
  have h' : some u = some v := h
  rw [← h']
  exact Fr.get_of_sub hc t u hct
 | none =>
  rw [hct] at h
  have h' : fb.get t = some v := h
  rw [← List.take_append_drop (fr.length - fb.length) fr, hb, Fr.get_append]
  cases hp : Fr.get (fr.take (fr.length - fb.length)) t with
  | none => exact h'
  | some u =>
   exfalso
   have h1 : inN t ((fr.take (fr.length - fb.length)).map Prod.fst) = true := by
    cases hi : inN t ((fr.take (fr.length - fb.length)).map Prod.fst) with
    | true => rfl
    | false => rw [(Fr.get_none_iff _ t).2 hi] at hp; cases hp
   rcases okSlots_spec hs t h1 with h2 | h2
   ·rw [(Fr.get_none_iff c t).1 hct] at h2; cases h2
   ·rw [(Fr.get_none_iff fb t).2 h2] at h'; cases h'
section
variable {P : Program} {fn : Func} {F : Ending → World → Prop} {N : Nat} {ks : List K} {k : K} {ops : Array Oper} {l : List Oper} {fr : Fr} {w : World} {tg : Tags}
theorem RK.le {fr' : Fr} (hs : Fr.le fr' fr) (h : RK P fn F N ks fr' w) : RK P fn F N ks fr w := fun a ha => h a (ha.le hs)
theorem rk_loopf {c : Code} (Inv : Fr → Nat → Fr → World → Prop) {n : Nat} {fr0 : Fr} (hs : Fr.le fr0 fr) (h0 : Inv fr n fr0 w)
  (round : ∀ n fr' w, Inv fr n fr' w → RK P fn F N (.code c :: .inv (fun a w' => ∃ m fr', m < n ∧ Rep N a fr' ∧ Inv fr m fr' w') :: ks) fr' w) : RK P fn F N (.code (.loop c) :: ks) fr w := by
 intro a ha b k cs
 have key : ∀ n fr' a w, Rep N a fr' → Inv fr n fr' w →
   ∃ e a' w', kpost P fn F ks e a' w' ∧ Arrives P (lone (b.at a (.code c :: .inLoop c :: k)) cs w) b k cs e a' w' := by
  intro n
  induction n using Nat.strongRecOn with
  | _ n ih =>
   intro fr' a w hr hI
   obtain ⟨e, a₁, w₁, hq, harr⟩ := round n fr' w hI a hr b (.inLoop c :: k) cs
   cases e with
   | normal =>
    obtain ⟨m, fr'', hlt, hr', hI₁⟩ := hq
    obtain ⟨e₂, a₂, w₂, hq₂, harr₂⟩ := ih m hlt fr'' a₁ w₁ hr' hI₁
    exact ⟨e₂, a₂, w₂, hq₂, .of_steps (Steps.trans harr (.one step_inLoop)) harr₂⟩
   | exit id => exact ⟨_, a₁, w₁, hq, .pass (x := .inLoop c) rfl (fun _ _ => .inl (by simp)) harr⟩
   | goto l => exact ⟨_, a₁, w₁, hq, .pass (x := .inLoop c) rfl (fun _ _ => .inl (by simp)) harr⟩
   | ret => exact ⟨_, a₁, w₁, hq, .pass (x := .inLoop c) rfl (fun _ _ => .inl (by simp)) harr⟩
   | panic ch => exact ⟨_, a₁, w₁, hq, .pass (x := .inLoop c) rfl (fun _ _ => .inl (by simp)) harr⟩
   | outgrown => exact ⟨_, a₁, w₁, hq, .pass (x := .inLoop c) rfl (fun _ _ => .inl (by simp)) harr⟩
 obtain ⟨e, a', w', hq, harr⟩ := key n fr0 a w (ha.le hs) h0
 exact ⟨e, a', w', hq, .of_steps (.one step_loop) harr⟩
theorem rk_againf {Inv : Nat → Fr → World → Prop} {n m : Nat} {fr0 : Fr} (hs : Fr.le fr0 fr) (h : Inv m fr0 w) (hlt : m < n) :
  RK P fn F N (.inv (fun a w' => ∃ m fr', m < n ∧ Rep N a fr' ∧ Inv m fr' w') :: ks) fr w := fun _ ha => ⟨m, fr0, hlt, ha.le hs, h⟩
theorem rk_joinf {id : Nat} (R : Fr → Fr → World → Prop) (h2 : ∀ fr' w, R fr fr' w → RK P fn F N ks fr' w) (h1 : ∀ ks, (∀ fr' w, R fr fr' w → RK P fn F N ks fr' w) → RK P fn F N (k :: .blk id :: ks) fr w) : RK P fn F N (k :: .blk id :: ks) fr w := h1 ks h2
theorem rk_tof {R : Fr → World → Prop} (hj : ∀ fr w, R fr w → RK P fn F N ks fr w) {fr0 : Fr} (hs : Fr.le fr0 fr) (h : R fr0 w) : RK P fn F N ks fr w := (hj fr0 w h).le hs
theorem wl_tof {R : Fr → World → Prop} (hj : ∀ fr w, R fr w → WL P fn F N ks ops tg l fr w) {fr0 : Fr} (hs : Fr.le fr0 fr) (h : R fr0 w) : WL P fn F N ks ops tg l fr w := fun a ha => hj fr0 w h a (ha.le hs)
theorem rk_frame {c fb fr' : Fr} (e : c ++ fb = fr') (h : RK P fn F N ks fr' w) : RK P fn F N ks (c ++ fb) w := e ▸ h
theorem wl_frame {c fb fr' : Fr} (e : c ++ fb = fr') (h : WL P fn F N ks ops tg l fr' w) : WL P fn F N ks ops tg l (c ++ fb) w := e ▸ h
theorem wl_forkf {row : Rw} {m L C n k1 k2 : Nat} {ops : List Oper} (R : Fr → Fr → World → Prop) (D A : List Nat) (ord1 ord2 ordR : List Nat) (ts1 ts2 tsR : List (Tag × Nat)) (hD : ops.map (dmask .any) = D) (hA : ancs .any ops [] = A)
  (hc : (Nat.testBit L k1 && (Nat.testBit L k2 && (rdyK D m k1 && (rdyK D m k2 && (Go.Proofs.YtnnhenafhalobaaGreat.only2 m k1 k2 D 0 && (Nat.beq n ((inOrder ops ord1).length + extra ts1) && (Nat.beq n ((inOrder ops ord2).length + extra ts2) && (chk ops.toArray ops D A L C ts1 (m ||| 2 ^ k1) && chk ops.toArray ops D A L C ts2 (m ||| 2 ^ k2))))))))) = true)
  (hl1 : (inOrder ops ord1).map some = ops.toArray[k1]? :: opsOf ops.toArray ts1) (hl2 : (inOrder ops ord2).map some = ops.toArray[k2]? :: opsOf ops.toArray ts2)
  (h0 : ∀ fr' w, R fr fr' w → WL P fn F N ks ops.toArray (some (row, tsR)) (inOrder ops ordR) fr' w)
  (h1 : (∀ fr' w, R fr fr' w → WL P fn F N ks ops.toArray (some (row, tsR)) (inOrder ops ordR) fr' w) → WL P fn F N ks ops.toArray (some (row, (.g m L C, k1) :: ts1)) (inOrder ops ord1) fr w)
  (h2 : (∀ fr' w, R fr fr' w → WL P fn F N ks ops.toArray (some (row, tsR)) (inOrder ops ordR) fr' w) → WL P fn F N ks ops.toArray (some (row, (.g m L C, k2) :: ts2)) (inOrder ops ord2) fr w) : WL P fn F N ks ops.toArray (some (row, [(.f m L C, n)])) [] fr w :=
 wl_fork2j (R fr) D A ord1 ord2 ordR ts1 ts2 tsR hD hA hc hl1 hl2 h0 h1 h2
end

/-! Which blocks a change may touch. -/
def Ap (row : Option Nat) (lo hi : Nat) : Prop := ∀ k, row = some k → k < lo ∨ hi ≤ k
theorem ap_some {g lo hi : Nat} (h : g < lo ∨ hi ≤ g) : Ap (some g) lo hi := fun k e => by injection e with e; omega
def TyAt (w : World) (k : Nat) (e : TypeId) : Prop := ∃ cs f, w.heap[k]? = some (.cells cs e f)
structure Grew (w w' : World) (e : TypeId) (row : Option Nat) : Prop where
 g : w.grownBy w' row
 ty : ∀ k, row = some k → TyAt w k e
theorem Grew.size {w w' : World} {e : TypeId} {row : Option Nat} (h : Grew w w' e row) : w.heap.size ≤ w'.heap.size := h.g.size
theorem Grew.below {w w' : World} {e : TypeId} {row : Option Nat} (h : Grew w w' e row) {B : Nat} (hB : B ≤ w.heap.size) (ha : ∀ k, row = some k → B ≤ k) : Below B w w' :=
 ⟨h.g.os, h.g.tape, h.g.output, h.g.size, fun k hk => h.g.block k (by omega) (fun e => by have := ha k e.symm; omega)⟩

structure GrewM (w w' : World) (b : Nat) : Prop where
 g : w.grownBy w' (some b)
 m : ∃ es c, w.heap[b]? = some (.map es c)
theorem GrewM.size {w w' : World} {b : Nat} (h : GrewM w w' b) : w.heap.size ≤ w'.heap.size := h.g.size

section
variable {w w' : World} {g : Nat} {t e : TypeId} {cs : List Value} {row : Option Nat}
theorem Blk.u (h : Blk w g t cs) (hb : Below w.heap.size w w') : Blk w' g t cs := h.under hb
theorem Blk.d (h : Blk w g t cs) : Blk w.drew g t cs := h
theorem Blk.k (h : Blk w g t cs) (hg : w.grownBy w' row) (ha : Ap row g (g + 1)) : Blk w' g t cs := h.grown hg (fun e => by have := ha g e.symm; omega)
theorem Blk.y (h : Blk w g t cs) (hg : Grew w w' e row) (hne : e ≠ t) : Blk w' g t cs := h.grown hg.g (fun e' => by
 obtain ⟨cs', f, h'⟩ := hg.ty g e'.symm
 unfold Blk at h
 rw [h] at h'
 injection h' with h'
 injection h' with _ h'
 exact hne h'.symm)
theorem Blk.at_ (h : Blk w g t cs) : TyAt w g t := ⟨_, _, h⟩
end

section
variable {w w' : World} {sz n lo hi c : Nat} {e e' : TypeId} {A : Option Addr} {xs : List Value} {l : List UInt8} {row : Option Nat}
theorem Rd.u (h : Rd w A l) (hb : Below w.heap.size w w') : Rd w' A l := h.below hb
theorem Rd.d (h : Rd w A l) : Rd w.drew A l := h
theorem Rd.to_Reads (h : Rd w A l) : Reads w 1 A l.length (B8 l) := h
structure RowH (w : World) (lo hi : Nat) (e : TypeId) (sz : Nat) (A : Option Addr) (n c : Nat) (xs : List Value) : Prop where
 o : w.ownsRow lo e sz (.slice A n c) n xs
 hi : ∀ k, blk A = some k → k < hi
theorem RowH.lt (h : RowH w lo hi e sz A n c xs) : ∀ k, blk A = some k → lo ≤ k ∧ k < w.heap.size := fun k hk => World.ownsRow.lt h.o k (by rw [blk_own]; exact hk)
theorem RowH.u (h : RowH w lo hi e sz A n c xs) (hb : Below w.heap.size w w') : RowH w' lo hi e sz A n c xs :=
 ⟨World.ownsRow.kept h.o (row := none) ⟨hb.os, hb.tape, hb.output, hb.size, fun k hk _ => hb.block k hk⟩ (by rw [blk_own]; cases blk A <;> simp), h.hi⟩
theorem RowH.d (h : RowH w lo hi e sz A n c xs) : RowH w.drew lo hi e sz A n c xs := ⟨World.ownsRow.drew h.o, h.hi⟩
theorem RowH.k (h : RowH w lo hi e sz A n c xs) (hg : w.grownBy w' row) (ha : Ap row lo hi) : RowH w' lo hi e sz A n c xs :=
 ⟨World.ownsRow.kept h.o hg (by
  rw [blk_own]
  cases hA : blk A with
  | none => exact .inl rfl
  | some k => exact .inr fun e => by have := h.hi k hA; have := h.lt k hA; have := ha k e.symm; omega), h.hi⟩
theorem RowH.ty (h : RowH w lo hi e sz A n c xs) : ∀ k, blk A = some k → TyAt w k e := fun k hk => by
 rcases h.o.2 with ⟨hv, _⟩ | ⟨g', cap, cur, hv, _, hh, _⟩
 ·injection hv with hv; subst hv; cases hk
 ·injection hv with hv; subst hv
  have : g' = k := by simpa [blk] using hk
  subst this
  exact ⟨_, _, hh⟩
theorem RowH.y (h : RowH w lo hi e sz A n c xs) (hg : Grew w w' e' row) (hne : e' ≠ e) : RowH w' lo hi e sz A n c xs :=
 ⟨World.ownsRow.kept h.o hg.g (by
  rw [blk_own]
  cases hA : blk A with
  | none => exact .inl rfl
  | some k =>
   refine .inr (fun ek => ?_)
   obtain ⟨_, _, h1⟩ := h.ty k hA
   obtain ⟨_, _, h2⟩ := hg.ty k ek.symm
   rw [h1] at h2
   injection h2 with h2
   injection h2 with _ h2
   exact hne h2.symm), h.hi⟩
theorem RowH.m {b : Nat} (h : RowH w lo hi e sz A n c xs) (hg : GrewM w w' b) : RowH w' lo hi e sz A n c xs :=
 ⟨World.ownsRow.kept h.o hg.g (by
  rw [blk_own]
  cases hA : blk A with
  | none => exact .inl rfl
  | some k =>
   refine .inr (fun ek => ?_)
   obtain ⟨_, _, h1⟩ := h.ty k hA
   obtain ⟨_, _, h2⟩ := hg.m
   injection ek with ek
   subst ek
   rw [h1] at h2
   cases h2), h.hi⟩
theorem RowH.ap (h : RowH w lo hi e sz A n c xs) {lo' hi' : Nat} (hd : hi ≤ lo' ∨ hi' ≤ lo) : Ap (blk A) lo' hi' := fun k hk => by have := h.hi k hk; have := h.lt k hk; omega
theorem RowH.rd (h : RowH w lo hi e sz A n c xs) : Reads w sz A n xs := Reads.of_own h.o
theorem RowH.cap (h : RowH w lo hi e sz A n c xs) : n ≤ c := by
 rcases h.o.2 with ⟨h1, h2⟩ | ⟨g, cap, cur, h2, h3, h4, h5, _⟩
 ·injection h1 with _ _ h3; omega
 ·injection h2 with _ _ h6; omega
theorem RowH.base (h : RowH w lo hi e sz A n c xs) {lo' hi' : Nat} (h1 : lo' ≤ lo) (h2 : hi ≤ hi') : RowH w lo' hi' e sz A n c xs :=
 ⟨⟨h.o.1, by
  rcases h.o.2 with h3 | ⟨g, cap, cur, h3, h4, h5⟩
  ·exact .inl h3
  ·exact .inr ⟨g, cap, cur, h3, by omega, h5⟩⟩, fun k hk => by have := h.hi k hk; omega⟩
theorem RowH.nil (w : World) (lo hi : Nat) (e : TypeId) (sz : Nat) : RowH w lo hi e sz none 0 0 [] := ⟨World.ownsRow_nil _ _ _ _, fun k hk => by cases hk⟩

def OwnH (w : World) (lo hi : Nat) (A : Option Addr) (c : Nat) (l : List UInt8) : Prop := RowH w lo hi 5 1 A l.length c (B8 l)
theorem OwnH.u (h : OwnH w lo hi A c l) (hb : Below w.heap.size w w') : OwnH w' lo hi A c l := RowH.u h hb
theorem OwnH.d (h : OwnH w lo hi A c l) : OwnH w.drew lo hi A c l := RowH.d h
theorem OwnH.k (h : OwnH w lo hi A c l) (hg : w.grownBy w' row) (ha : Ap row lo hi) : OwnH w' lo hi A c l := RowH.k h hg ha
theorem OwnH.y (h : OwnH w lo hi A c l) (hg : Grew w w' e' row) (hne : e' ≠ 5) : OwnH w' lo hi A c l := RowH.y h hg hne
theorem OwnH.ap (h : OwnH w lo hi A c l) {lo' hi' : Nat} (hd : hi ≤ lo' ∨ hi' ≤ lo) : Ap (blk A) lo' hi' := RowH.ap h hd
theorem OwnH.cap (h : OwnH w lo hi A c l) : l.length ≤ c := RowH.cap h
theorem OwnH.to_Rd (h : OwnH w lo hi A c l) : Rd w A l := RowH.rd h
theorem OwnH.base (h : OwnH w lo hi A c l) {lo' hi' : Nat} (h1 : lo' ≤ lo) (h2 : hi ≤ hi') : OwnH w lo' hi' A c l := RowH.base h h1 h2
theorem OwnH.nil_ : OwnH w lo hi none 0 [] := RowH.nil _ _ _ _ _
theorem Own.h_ (h : Own w lo A c l) : OwnH w lo w.heap.size A c l := ⟨h, fun k hk => (Own.lt h k hk).2⟩
end

section
variable {P : Program} {fn : Func} {F : Ending → World → Prop} {N : Nat} {ks : List K} {ops : Array Oper} {tg : Tags} {l : List Oper} {fr : Fr} {w : World} {ty t t' t2 e : TypeId} {z v : Value} {sz bytes : Nat} {pos pos2 : String} {aft aft2 : Array Edge} {gd gd2 : Option (Nat × Bool)} {d g i n : Nat} {x y k : Operand} {cs : List Value} {ty2 : TypeId}

/-! New blocks. -/
theorem wl_allocg (zs : List Value) (hz : ∀ w, (zeroValue e).run P w = .ok z w) (hzs : z.cells = zs.toArray)
  (hk : ∀ g w', Blk w' g e zs → Below w.heap.size w w' → w.heap.size ≤ g → g < w'.heap.size → WL P fn F N ks ops tg.tail l ((d, .pointer (some ⟨g, 0, none⟩)) :: fr) w')
  (ht : tg.loud = true := by rfl) (hg : onG ops fr gd = true := by rfl) (hd : Nat.blt d N = true := by rfl) : WL P fn F N ks ops tg (⟨some d, .alloc e, ty, pos, aft, gd⟩ :: l) fr w :=
 wl_alloc zs hz hzs (fun w' h1 h2 h3 => hk _ w' h1 h2 (Nat.le_refl _) (by omega)) ht hg hd
theorem wl_boxg (vs : List Value) (hx : fr.ev x = some v) (hvs : v.cells = vs.toArray)
  (hk : ∀ g w', Blk w' g e vs → Below w.heap.size w w' → w.heap.size ≤ g → g < w'.heap.size → WL P fn F N ks ops tg.tail l ((d, .pointer (some ⟨g, 0, none⟩)) :: fr) w')
  (ht : tg.loud = true := by rfl) (hg : onG ops fr gd = true := by rfl) (hd : Nat.blt d N = true := by rfl) : WL P fn F N ks ops tg (⟨some d, .box e x, ty, pos, aft, gd⟩ :: l) fr w :=
 wl_box vs hx hvs (fun w' h1 h2 h3 => hk _ w' h1 h2 (Nat.le_refl _) (by omega)) ht hg hd
theorem wl_allocstn (hz : ∀ w, (zeroValue e).run P w = .ok z w) (zs vs : List Value) (hzs : z.cells = zs.toArray) (hs : ∀ w, (sizeOf t).run P w = .ok n w) (hy : ∀ u, Fr.ev ((d, u) :: fr) y = some (.agg vs.toArray)) (hzl : zs.length = n) (hn : vs.length = n) (h1 : ∀ v ∈ vs, v.oneCell' = true)
  (hk : ∀ g w', Blk w' g e vs → Below w.heap.size w w' → w.heap.size ≤ g → g < w'.heap.size → WL P fn F N ks ops tg.tail.tail l ((d, .pointer (some ⟨g, 0, none⟩)) :: fr) w')
  (ht : tg.loud = true := by rfl) (ht2 : tg.tail.loud = true := by rfl) (hg : onG ops fr gd = true := by rfl) (hg2 : ∀ u, onG ops ((d, u) :: fr) gd2 = true := by intro _; rfl) (hd : Nat.blt d N = true := by rfl) (hq : tg.tail.calm = false := by rfl) :
  WL P fn F N ks ops tg (⟨some d, .alloc e, ty, pos, aft, gd⟩ :: ⟨none, .store t (.tmp d) y, ty2, pos2, aft2, gd2⟩ :: l) fr w :=
 wl_alloc zs hz hzs (fun w1 hB hb hz1 => wl_store_all hs (show Fr.ev ((d, .pointer (some ⟨w.heap.size, 0, none⟩)) :: fr) (.tmp d) = _ by simp [Fr.ev, Fr.get]) (hy _) hn h1 hB hzl (fun w2 hB2 hg2' hz2 => hk w.heap.size w2
  hB2 (hb.trans (below_of_grownBy hg2' (by omega) (Nat.le_refl _))) (Nat.le_refl _) (by omega)) ht2 (hg2 _) (.inl hq)) ht hg hd

/-! Stores into blocks of the call's own. -/
theorem wl_storeg1 (hs : ∀ w, (sizeOf t).run P w = .ok 1 w) (hx : fr.ev x = some (.pointer (some ⟨g, i, none⟩))) (hy : fr.ev y = some v) (h1 : v.oneCell' = true) (hB : Blk w g t' cs) (hi : i < cs.length)
  (hk : ∀ w', Blk w' g t' (cs.set i v) → Grew w w' t' (some g) → w'.heap.size = w.heap.size → WL P fn F N ks ops tg.tail l fr w') (ht : tg.loud = true := by rfl) (hg : onG ops fr gd = true := by rfl) (hq : tg.calm = false ∨ tg.rw.may (some g) := by exact .inl rfl) :
  WL P fn F N ks ops tg (⟨none, .store t x y, ty, pos, aft, gd⟩ :: l) fr w :=
 wl_store1 hs hx hy h1 hB hi (fun w' h1 h2 h3 => hk w' h1 ⟨h2, fun k e => by injection e with e; subst e; exact hB.at_⟩ h3) ht hg hq
theorem wl_storega {vs : List Value} (hs : ∀ w, (sizeOf t).run P w = .ok n w) (hx : fr.ev x = some (.pointer (some ⟨g, 0, none⟩))) (hy : fr.ev y = some (.agg vs.toArray)) (hn : vs.length = n) (h1 : ∀ v ∈ vs, v.oneCell' = true) (hB : Blk w g t' cs) (hi : cs.length = n)
  (hk : ∀ w', Blk w' g t' vs → Grew w w' t' (some g) → w'.heap.size = w.heap.size → WL P fn F N ks ops tg.tail l fr w') (ht : tg.loud = true := by rfl) (hg : onG ops fr gd = true := by rfl) (hq : tg.calm = false ∨ tg.rw.may (some g) := by exact .inl rfl) :
  WL P fn F N ks ops tg (⟨none, .store t x y, ty, pos, aft, gd⟩ :: l) fr w :=
 wl_store_all hs hx hy hn h1 hB hi (fun w' h1 h2 h3 => hk w' h1 ⟨h2, fun k e => by injection e with e; subst e; exact hB.at_⟩ h3) ht hg hq
theorem wl_storegn {vs : List Value} (hs : ∀ w, (sizeOf t).run P w = .ok n w) (hx : fr.ev x = some (.pointer (some ⟨g, i, none⟩))) (hy : fr.ev y = some (.agg vs.toArray)) (hn : vs.length = n) (h1 : ∀ v ∈ vs, v.oneCell' = true) (hB : Blk w g t' cs) (hi : i + n ≤ cs.length)
  (hk : ∀ w', Blk w' g t' (spl cs i vs) → Grew w w' t' (some g) → w'.heap.size = w.heap.size → WL P fn F N ks ops tg.tail l fr w') (ht : tg.loud = true := by rfl) (hg : onG ops fr gd = true := by rfl) (hq : tg.calm = false ∨ tg.rw.may (some g) := by exact .inl rfl) :
  WL P fn F N ks ops tg (⟨none, .store t x y, ty, pos, aft, gd⟩ :: l) fr w :=
 wl_storen hs hx hy hn h1 hB hi (fun w' h1 h2 h3 => hk w' h1 ⟨h2, fun k e => by injection e with e; subst e; exact hB.at_⟩ h3) ht hg hq

/-! Loads out of blocks. -/
theorem o_loadbg (ha' : ∀ w, (isAgg t).run P w = .ok false w) (hx : fr.ev x = some (.pointer (some ⟨g, i, none⟩))) (hB : Blk w g t' cs) (hi : cs[i]? = some v) : OpV P N fr w (.load t x) ty v w := o_loadb ha' hx hB hi
theorem o_loadag (ha' : ∀ w, (isAgg t).run P w = .ok true w) (hs : ∀ w, (sizeOf t).run P w = .ok n w) (hx : fr.ev x = some (.pointer (some ⟨g, 0, none⟩))) (hB : Blk w g t' cs) (hn : cs.length = n) : OpV P N fr w (.load t x) ty (.agg cs.toArray) w := o_load_all ha' hs hx hB hn

/-! Elements of slices: addresses. -/
def adr (A : Option Addr) (k : Nat) : Addr := (A.getD ⟨0, 0, none⟩).add k
theorem adr_add (A : Option Addr) (i j : Nat) : (adr A i).add j = adr A (i + j) := add_of_add _ _ _
theorem Reads.adr_ {A : Option Addr} {xs : List Value} {n : Nat} (h : Reads w sz A n xs) (hne : xs ≠ []) : A = some (A.getD ⟨0, 0, none⟩) ∧ ∀ j u, xs[j]? = some u → w.cell? (adr A j) = some u := by
 obtain ⟨b, o, rfl, hc⟩ := h.2 hne
 exact ⟨rfl, fun j u hu => by simp only [adr, Option.getD_some, add_plain]; exact hc j u hu⟩
section
variable {A : Option Addr} {len cap : Nat} {ik : IntKind} {m : Int} {xs : List Value} {w0 : World}
theorem Reads.some_ (hr : Reads w0 sz A len xs) (h0 : 0 < sz) (hj : 0 < len) : A = some (A.getD ⟨0, 0, none⟩) := by
 refine (hr.adr_ (fun e => ?_)).1
 have := hr.1
 rw [e, List.length_nil] at this
 rcases Nat.mul_eq_zero.1 this.symm with h | h <;> omega
theorem o_iaddrA (j : Nat) (hu : P.underlying t = some (.slice e)) (hs : ∀ w, (sizeOf e).run P w = .ok sz w) (hx : fr.ev x = some (.slice A len cap)) (hy : fr.ev y = some (.int ik m)) (hm : m = (j : Int)) (hA : A = some (A.getD ⟨0, 0, none⟩)) (hj : j < len) :
  OpV P N fr w (.indexAddr t x y) ty (.pointer (some (adr A (j * sz)))) w := fun a ha op hop _ => by
 subst hm
 have h2 : ¬ len ≤ j := by omega
 have hx' : a.eval x = .slice (some (A.getD ⟨0, 0, none⟩)) len cap := by rw [ha.ev hx]; exact congrArg (fun A => Value.slice A len cap) hA
 simp [execOp, hop, hx', ha.ev hy, Instr.indexAt, run_underlying hu, asIntOf, hs, adr]
 intro h; exact absurd h h2
theorem o_iaddrA1 (j : Nat) (hu : P.underlying t = some (.slice e)) (hs : ∀ w, (sizeOf e).run P w = .ok 1 w) (hx : fr.ev x = some (.slice A len cap)) (hy : fr.ev y = some (.int ik m)) (hm : m = (j : Int)) (hA : A = some (A.getD ⟨0, 0, none⟩)) (hj : j < len) :
  OpV P N fr w (.indexAddr t x y) ty (.pointer (some (adr A j))) w := o_as (o_iaddrA j hu hs hx hy hm hA hj) (by rw [Nat.mul_one])
theorem o_faddrA {s : TypeId} {fs : Array Field} {f : Field} {i off fsz : Nat} {ad : Addr} (hu : P.underlying s = some (.struct fs)) (hf : fs[i]? = some f) (hs : ∀ w, (sizeOf f.type).run P w = .ok fsz w) (hz : Nat.blt 0 fsz = true) (ho : f.offset = off)
  (hx : fr.ev x = some (.pointer (some ad))) : OpV P N fr w (.fieldAddr s x i) ty (.pointer (some (ad.add off))) w := fun a ha op hop _ => by
 have hz' : fsz ≠ 0 := by
  have : 0 < fsz := by simpa using hz
  omega
 subst ho
 simp [execOp, hop, ha.ev hx, Instr.fieldAt, run_underlying hu, hf, Instr.sureAddr, fieldPlace, hs, hz']
theorem o_faddrR {s : TypeId} {fs : Array Field} {f : Field} {i off fsz k : Nat} {A : Option Addr} (hx : fr.ev x = some (.pointer (some (adr A k)))) (hu : P.underlying s = some (.struct fs)) (hf : fs[i]? = some f) (hs : ∀ w, (sizeOf f.type).run P w = .ok fsz w) (hz : Nat.blt 0 fsz = true) (ho : f.offset = off) :
  OpV P N fr w (.fieldAddr s x i) ty (.pointer (some (adr A (k + off)))) w := o_as (o_faddrA hu hf hs hz ho hx) (by rw [adr_add])
theorem o_loadA1 (ha' : ∀ w, (isAgg t).run P w = .ok false w) (hx : fr.ev x = some (.pointer (some (adr A i)))) (hr : Reads w sz A n xs) (hv : xs[i]? = some v) : OpV P N fr w (.load t x) ty v w :=
 o_load ha' hx ((hr.adr_ (fun e => by rw [e] at hv; cases hv)).2 _ _ hv)
theorem o_loadB {j : Nat} {bs : List UInt8} (ha' : ∀ w, (isAgg t).run P w = .ok false w) (hx : fr.ev x = some (.pointer (some (adr A j)))) (hr : Rd w A bs) (hj : j < bs.length) : OpV P N fr w (.load t x) ty (.int .u8 (bs[j].toNat : Int)) w :=
 o_loadA1 ha' hx hr (B8_get bs j hj)
theorem o_loadZ {j : Nat} {zs : List Int} (ha' : ∀ w, (isAgg t).run P w = .ok false w) (hx : fr.ev x = some (.pointer (some (adr A j)))) (hr : Reads w 1 A n (zs.map (Value.int ik))) (hj : j < zs.length) : OpV P N fr w (.load t x) ty (.int ik zs[j]) w :=
 o_loadA1 ha' hx hr (by rw [List.getElem?_map, List.getElem?_eq_getElem hj]; rfl)
end

/-! Literals of structs and arrays. -/
def lay (offs : Nat → Nat) : List Value → List (Nat × Value) → List Value
 | L, [] => L
 | L, (i, v) :: r => lay offs (spl L (offs i) v.cells.toList) r
theorem o_buildg {ps : Array (Nat × Operand)} {is : List Nat} {xs : List Operand} {vs : List Value} {fs : Array Field} (cs : List Value) (hu : P.underlying t = some (.struct fs)) (hz : ∀ w, (zeroValue t).run P w = .ok z w) (his : ps.toList.map Prod.fst = is) (hxs : ps.toList.map Prod.snd = xs) (hx : fr.evs xs = some vs)
  (hc : lay (fun i => ((fs[i]?).map (fun f => f.offset)).getD 0) z.cells.toList (is.zip vs) = cs) (hps : ps = (is.zip xs).toArray) (hr : ∀ w, (Instr.build t (is.zip vs).toArray).run P w = .ok (.agg cs.toArray) w) : OpV P N fr w (.build t ps) ty (.agg cs.toArray) w := by
 subst hps
 exact o_build hx hr
theorem o_buildga {ps : Array (Nat × Operand)} {is : List Nat} {xs : List Operand} {vs : List Value} (cs : List Value) (hu : P.underlying t = some (.array n e)) (hs : ∀ w, (sizeOf e).run P w = .ok sz w) (hz : ∀ w, (zeroValue t).run P w = .ok z w) (his : ps.toList.map Prod.fst = is) (hxs : ps.toList.map Prod.snd = xs) (hx : fr.evs xs = some vs)
  (hc : lay (fun i => i * sz) z.cells.toList (is.zip vs) = cs) (hps : ps = (is.zip xs).toArray) (hr : ∀ w, (Instr.build t (is.zip vs).toArray).run P w = .ok (.agg cs.toArray) w) : OpV P N fr w (.build t ps) ty (.agg cs.toArray) w := by
 subst hps
 exact o_build hx hr

/-! append, literals. -/
theorem run_append_cap0 {P : Program} (w : World) {t e ty : TypeId} {i : TypeInfo} (ht : P.underlying t = some (.slice e)) (hi : P.info? e = some i) (A : Option Addr) {X : Option Addr} {m q : Nat} (hm : 0 < m) (hb : Builtin.nextslicecap m 0 * i.bytes ≤ 281474976710656) :
  (Builtin.append_ #[t, t] ty #[.slice A 0 0, .slice X m q]).run P w = (Builtin.append_ #[t, t] ty #[.slice none 0 0, .slice X m q]).run P w := by
 have h0 : m ≠ 0 := by omega
 have h48' : ¬ (281474976710656 < Builtin.nextslicecap m 0 * i.bytes) := by omega
 have h1 : ∀ w, (Builtin.firstCells i.size 0 (.slice A 0 0)).run P w = .ok #[] w := fun w => by
  cases A <;> simp [Builtin.firstCells, loadCells, loadCellsFrom]
 have h2 : ∀ w, (Builtin.firstCells i.size 0 (.slice none 0 0)).run P w = .ok #[] w := fun w => by
  simp [Builtin.firstCells]
 simp [Builtin.append_, run_underlying ht, sizeOf, typeInfo, hi, Builtin.lenOf, h0, h48', h1, h2]
section
variable {A X : Option Addr} {c j q lo hi : Nat} {xs ms : List Value}
theorem wl_appR (T : RowT P t e z sz bytes) (hx : fr.ev x = some (.slice A n c)) (hown : RowH w lo hi e sz A n c xs) (hy : fr.ev y = some (.slice X j q)) (hr : Reads w sz X j ms) (h1 : ∀ u ∈ ms, u.oneCell' = true) (h63 : n + j ≤ maxLen) (hlen : (n + j) * bytes ≤ 140737488355328) (hB : lo ≤ w.heap.size)
  (h : ∀ A' c' w', RowH w' lo w'.heap.size e sz A' (n + j) c' (xs ++ ms) → Grew w w' e (blk A) → Below lo w w' → (blk A' = blk A ∨ blk A' = some w.heap.size) → WL P fn F N ks ops tg.tail l ((d, .slice A' (n + j) c') :: fr) w')
  (ht : tg.loud = true := by rfl) (hg : onG ops fr gd = true := by rfl) (hd : Nat.blt d N = true := by rfl) (hq : tg.calm = false ∨ blk A = none ∨ blk A = tg.row := by exact .inl rfl) :
  WL P fn F N ks ops tg (⟨some d, .call { callee := .builtin .append, args := #[x, y], argTypes := #[t, t] }, ty, pos, aft, gd⟩ :: l) fr w :=
 wl_appn T hx hown.o hy hr h1 h63 hlen hB (fun A' c' w' h1 h2 h3 h4 => h A' c' w' ⟨h1, fun k hk => (World.ownsRow.lt h1 k (by rw [blk_own]; exact hk)).2⟩ ⟨h2, hown.ty⟩ h4 h3) ht hg hd hq
theorem wl_appR0 (T : RowT P t e z sz bytes) (hx : fr.ev x = some (.slice A 0 0)) (hown : RowH w lo hi e sz A 0 0 []) (hy : fr.ev y = some (.slice X j q)) (hr : Reads w sz X j ms) (h1 : ∀ u ∈ ms, u.oneCell' = true) (h63 : j ≤ maxLen) (hlen : j * bytes ≤ 140737488355328) (hB : lo ≤ w.heap.size)
  (h : ∀ A' c' w', RowH w' lo w'.heap.size e sz A' j c' ms → Below w.heap.size w w' → WL P fn F N ks ops tg.tail l ((d, .slice A' j c') :: fr) w')
  (ht : tg.loud = true := by rfl) (hg : onG ops fr gd = true := by rfl) (hd : Nat.blt d N = true := by rfl) :
  WL P fn F N ks ops tg (⟨some d, .call { callee := .builtin .append, args := #[x, y], argTypes := #[t, t] }, ty, pos, aft, gd⟩ :: l) fr w := by
 obtain ⟨i, hi, hz, hs, hb⟩ := info_parts T.hi
 rcases Nat.eq_zero_or_pos j with h0 | h0
 ·subst h0
  have hm : ms = [] := List.eq_nil_of_length_eq_zero (by rw [hr.1]; simp)
  subst hm
  have hrun : (Builtin.append_ #[t, t] ty #[.slice A 0 0, .slice X 0 q]).run P w = .ok (.slice A 0 0) w := by
   have hst : ∀ a : Addr, (storeCells a [] 0).run P w = .ok () w := fun a => by simp [storeCells]
   have hf : (Builtin.firstCells i.size 0 (.slice X 0 q)).run P w = .ok #[] w := by cases X <;> simp [Builtin.firstCells, loadCells, loadCellsFrom]
   cases A <;> simp [Builtin.append_, run_underlying T.ht, sizeOf, typeInfo, hi, Builtin.lenOf, hf, storeCells]
  exact wl_v (o_builtin (xs := [x, y]) (vs := [.slice A 0 0, .slice X 0 q]) (by simp [Fr.evs, hx, hy]) (by simp [builtin, hrun]) (by simp)) (h A 0 w ⟨hown.o, fun k hk => (hown.lt k hk).2⟩ (Below.refl _ _)) ht hg hd (.inr (grown_of_below (Below.refl _ _) _))
 ·obtain ⟨v', w', hrun, h2, h3, h4⟩ := run_append_any (P := P) w w.heap.size t ty e i z sz bytes T.ht hi hz hs hb T.hz T.h0 (.slice none 0 0) 0 [] (World.ownsRow_nil _ _ _ _) X j q ms hr h1 (by omega) (by rw [Nat.zero_add]; exact hlen) (Nat.le_refl _)
  obtain ⟨A', c', rfl⟩ := ownsRow_shape h2
  rw [← run_append_cap0 (P := P) w T.ht hi A h0 (by rw [nextslicecap_zero h0, hb]; omega)] at hrun
  have hbl : Below w.heap.size w w' := below_of_grown_none h3
  simp only [Nat.zero_add, List.nil_append] at h2 hrun
  have hR : RowH w' w.heap.size w'.heap.size e sz A' j c' ms := ⟨h2, fun k hk => (World.ownsRow.lt h2 k (by rw [blk_own]; exact hk)).2⟩
  exact wl_v (o_builtin (xs := [x, y]) (vs := [.slice A 0 0, .slice X j q]) (by simp [Fr.evs, hx, hy]) (by simp [builtin, hrun]) (by simp)) (h A' c' w' (hR.base hB (Nat.le_refl _)) hbl) ht hg hd (.inr (grown_of_below hbl _))
theorem wl_appB (T : U8 P t) {s m : List UInt8} (hx : fr.ev x = some (.slice A n c)) (hown : OwnH w lo hi A c s) (hn : n = s.length) (hy : fr.ev y = some (.slice X j q)) (hr : Rd w X m) (hj : j = m.length) (hlen : s.length + m.length ≤ 4000000000) (hB : lo ≤ w.heap.size)
  (h : ∀ A' c' w', OwnH w' lo w'.heap.size A' c' (s ++ m) → Grew w w' 5 (blk A) → Below lo w w' → (blk A' = blk A ∨ blk A' = some w.heap.size) → WL P fn F N ks ops tg.tail l ((d, .slice A' (s ++ m).length c') :: fr) w')
  (ht : tg.loud = true := by rfl) (hg : onG ops fr gd = true := by rfl) (hd : Nat.blt d N = true := by rfl) (hq : tg.calm = false ∨ blk A = none ∨ blk A = tg.row := by exact .inl rfl) :
  WL P fn F N ks ops tg (⟨some d, .call { callee := .builtin .append, args := #[x, y], argTypes := #[t, t] }, ty, pos, aft, gd⟩ :: l) fr w :=
 wl_app T hx hn hown.o hy hj hr (by omega) hB (fun A' c' w' h1 h2 h3 h4 => h A' c' w' h1.h_ ⟨h2, RowH.ty hown⟩ h4 h3) ht hg hd hq
theorem wl_litR {ps : Array (Nat × Operand)} {xs : List Operand} {vs : List Value} (T : RowT P t e z sz bytes) (hs : ∀ w, (sizeOf e).run P w = .ok sz w) (hz : ∀ w, (zeroValue e).run P w = .ok z w) (hxs : ps.toList.map Prod.snd = xs) (hps : ps = ((List.range' 0 n).zip xs).toArray) (hx : fr.evs xs = some vs) (hn : vs.length = n) (h1 : ∀ v ∈ vs, v.cells.size = sz) (hm : Nat.ble (n * sz) 1000000 = true)
  (hk : ∀ A w', RowH w' w.heap.size w'.heap.size e sz A n n (vs.flatMap fun v => v.cells.toList) → Below w.heap.size w w' → WL P fn F N ks ops tg.tail l ((d, .slice A n n) :: fr) w')
  (ht : tg.loud = true := by rfl) (hg : onG ops fr gd = true := by rfl) (hd : Nat.blt d N = true := by rfl) : WL P fn F N ks ops tg (⟨some d, .buildSlice t n ps, ty, pos, aft, gd⟩ :: l) fr w := by
 subst hps
 refine wl_litn T hs hz n hx hn h1 hm (fun w' h1 h2 h3 => hk _ w' ⟨h1 _ (Nat.le_refl _), fun k hk => ?_⟩ h2) ht hg hd
 have : w.heap.size = k := by simpa [blk] using hk
 omega
theorem wl_litB {ps : Array (Nat × Operand)} {xs : List Operand} {vs : List Value} (bs : List UInt8) (T : U8 P t) (hs : ∀ w, (sizeOf 5).run P w = .ok 1 w) (hz : ∀ w, (zeroValue 5).run P w = .ok (.int .u8 0) w) (hxs : ps.toList.map Prod.snd = xs) (hx : fr.evs xs = some vs) (hv : vs = B8 bs) (hn : bs.length = n) (hps : ps = ((List.range' 0 n).zip xs).toArray) (hm : Nat.ble bs.length 1000000 = true)
  (hk : ∀ A w', OwnH w' w.heap.size w'.heap.size A n bs → Below w.heap.size w w' → WL P fn F N ks ops tg.tail l ((d, .slice A n n) :: fr) w')
  (ht : tg.loud = true := by rfl) (hg : onG ops fr gd = true := by rfl) (hd : Nat.blt d N = true := by rfl) : WL P fn F N ks ops tg (⟨some d, .buildSlice t n ps, ty, pos, aft, gd⟩ :: l) fr w := by
 subst hps; subst hv; subst hn
 exact wl_lit8 bs T hs hz hx hm (fun w' h1 h2 _ => hk _ w' h1.h_ h2) ht hg hd
end
end
section
variable {P : Program} {fn : Func} {F : Ending → World → Prop} {N : Nat} {ks : List K} {ops : Array Oper} {tg : Tags} {l : List Oper} {fr : Fr} {w : World} {ty : TypeId} {pos : String} {aft : Array Edge} {g : Option (Nat × Bool)} {d : Nat} {x : Operand} {v : Value} {op : Op}
theorem zp (h : ∀ {w : World}, OpV P N fr w op ty v w) (hk : WL P fn F N ks ops tg.tail l ((d, v) :: fr) w) (hg : onG ops fr g = true := by rfl) (hd : Nat.blt d N = true := by rfl) : WL P fn F N ks ops tg (⟨some d, op, ty, pos, aft, g⟩ :: l) fr w := wl_p (fun _ => h) hk hg hd
theorem zm (h : fr.ev x = some v) (hk : WL P fn F N ks ops tg.tail l ((d, v) :: fr) w) (hg : onG ops fr g = true := by rfl) (hd : Nat.blt d N = true := by rfl) : WL P fn F N ks ops tg (⟨some d, .move x, ty, pos, aft, g⟩ :: l) fr w := wl_p (fun _ => o_move h) hk hg hd
theorem za (h : fr.ev x = some v) (hk : WL P fn F N ks ops tg.tail l ((d, v) :: fr) w) (hg : onG ops fr g = true := by rfl) (hd : Nat.blt d N = true := by rfl) : WL P fn F N ks ops tg (⟨some d, .assign x, ty, pos, aft, g⟩ :: l) fr w := wl_p (fun _ => o_assign h) hk hg hd
theorem zs {id : Nat} {y : Code} (h : WL P fn F N (.code y :: ks) l.toArray none l fr w) : RK P fn F N (.code (.seq (.region id l.toArray false) y) :: ks) fr w := rk_seq (rk_region h)
theorem zf {c fb fr' : Fr} (h : RK P fn F N ks fr' w) (e : c ++ fb = fr' := by simp only [List.cons_append, List.nil_append, List.drop_succ_cons, List.drop_zero]; rfl) : RK P fn F N ks (c ++ fb) w := rk_frame e h
theorem zg {c fb fr' : Fr} (h : WL P fn F N ks ops tg l fr' w) (e : c ++ fb = fr' := by simp only [List.cons_append, List.nil_append, List.drop_succ_cons, List.drop_zero]; rfl) : WL P fn F N ks ops tg l (c ++ fb) w := wl_frame e h
end
end Go.Proofs.YtnnhenafhalobaaGreat
namespace Go.Proofs.YtnnhenafhalobaaGreat
set_option maxRecDepth 100000
open Go.ChangeShapes Go.WideShapes Go.ChangeAt Go.RowKit

structure GoT (α : Type) where
 sz : Nat
 tys : List TypeId
 R : World → List Value → α → Prop
 T : World → List Value → α → Prop
 len : ∀ {w cs a}, R w cs a → cs.length = sz
 u : ∀ {w w' cs a}, R w cs a → Below w.heap.size w w' → R w' cs a
 tr : ∀ {w cs a}, T w cs a → R w cs a
 tu : ∀ {w w' cs a}, T w cs a → Below w.heap.size w w' → T w' cs a
 ty : ∀ {w w' cs a e row}, T w cs a → Grew w w' e row → e ∉ tys → T w' cs a
 tm : ∀ {w w' cs a b}, T w cs a → GrewM w w' b → T w' cs a
theorem below_drew (w : World) : Below w.heap.size w w.drew := (Below.refl _ w).drew

def GoT.flat {α : Type} (f : α → Value) (p : α → Prop) : GoT α where
 sz := 1
 tys := []
 R _ cs a := cs = [f a] ∧ p a
 T _ cs a := cs = [f a] ∧ p a
 len h := by rw [h.1]; rfl
 u h _ := h
 tr h := h
 tu h _ := h
 ty h _ _ := h
 tm h _ := h
def gInt (k : IntKind) : GoT Int := GoT.flat (Value.int k) (fun n => (Lit.int k n).wf = true)
def gBool : GoT Bool := GoT.flat Value.bool (fun _ => True)
theorem grew_blk {w w' : World} {e e' : TypeId} {row : Option Nat} (hg : Grew w w' e' row) {A : Option Addr} (ht : ∀ k, blk A = some k → TyAt w k e) (hne : e' ≠ e) : blk A = none ∨ blk A ≠ row := by
 cases hA : blk A with
 | none => exact .inl rfl
 | some k =>
  refine .inr (fun ek => ?_)
  obtain ⟨_, _, h1⟩ := ht k hA
  obtain ⟨_, _, h2⟩ := hg.ty k ek.symm
  rw [h1] at h2
  injection h2 with h2
  injection h2 with _ h2
  exact hne h2.symm
theorem growm_blk {w w' : World} {e : TypeId} {b : Nat} (hg : GrewM w w' b) {A : Option Addr} (ht : ∀ k, blk A = some k → TyAt w k e) : blk A = none ∨ blk A ≠ some b := by
 cases hA : blk A with
 | none => exact .inl rfl
 | some k =>
  refine .inr (fun ek => ?_)
  obtain ⟨_, _, h1⟩ := ht k hA
  obtain ⟨_, _, h2⟩ := hg.m
  injection ek with ek
  subst ek
  rw [h1] at h2
  cases h2
theorem TyAt.lt {w : World} {k : Nat} {e : TypeId} (h : TyAt w k e) : k < w.heap.size := by
 obtain ⟨_, _, h⟩ := h
 rcases Nat.lt_or_ge k w.heap.size with h1 | h1
 ·exact h1
 ·rw [Array.getElem?_eq_none h1] at h; cases h
theorem TyAt.keep {w w' : World} {k : Nat} {e : TypeId} (h : TyAt w k e) (hb : w'.heap[k]? = w.heap[k]?) : TyAt w' k e := by
 obtain ⟨cs, f, h⟩ := h
 exact ⟨cs, f, hb.trans h⟩

def RdT (w : World) (A : Option Addr) (l : List UInt8) : Prop := Rd w A l ∧ ∀ k, blk A = some k → TyAt w k 5
section
variable {w w' : World} {A : Option Addr} {l : List UInt8} {e : TypeId} {row : Option Nat} {b lo hi c : Nat}
theorem RdT.u (h : RdT w A l) (hb : Below w.heap.size w w') : RdT w' A l := ⟨h.1.below hb, fun k hk => (h.2 k hk).keep (hb.block k (h.2 k hk).lt)⟩
theorem RdT.d (h : RdT w A l) : RdT w.drew A l := h
theorem RdT.to_Rd (h : RdT w A l) : Rd w A l := h.1
theorem RdT.y (h : RdT w A l) (hg : Grew w w' e row) (hne : e ≠ 5) : RdT w' A l := by
 have hne' := grew_blk hg h.2 hne
 refine ⟨h.1.grown hg.g hne', fun k hk => (h.2 k hk).keep (hg.g.block k (h.2 k hk).lt (fun e => ?_))⟩
 rcases hne' with h1 | h1
 ·rw [h1] at hk; cases hk
 ·exact h1 (hk.trans e)
theorem RdT.m (h : RdT w A l) (hg : GrewM w w' b) : RdT w' A l := by
 have hne' := growm_blk hg h.2
 refine ⟨h.1.grown hg.g hne', fun k hk => (h.2 k hk).keep (hg.g.block k (h.2 k hk).lt (fun e => ?_))⟩
 rcases hne' with h1 | h1
 ·rw [h1] at hk; cases hk
 ·exact h1 (hk.trans e)
theorem OwnH.to_RdT (h : OwnH w lo hi A c l) : RdT w A l := ⟨h.to_Rd, RowH.ty h⟩
end
def gBytes : GoT (List UInt8) where
 sz := 1
 tys := [5]
 R w cs l := ∃ A c, cs = [.slice A l.length c] ∧ Rd w A l ∧ l.length ≤ c ∧ c ≤ maxLen
 T w cs l := ∃ A c, cs = [.slice A l.length c] ∧ RdT w A l ∧ l.length ≤ c ∧ c ≤ maxLen
 len h := by obtain ⟨A, c, rfl, _⟩ := h; rfl
 u h hb := by obtain ⟨A, c, e, h1, h2⟩ := h; exact ⟨A, c, e, h1.below hb, h2⟩
 tr h := by obtain ⟨A, c, e, h1, h2⟩ := h; exact ⟨A, c, e, h1.1, h2⟩
 tu h hb := by obtain ⟨A, c, e, h1, h2⟩ := h; exact ⟨A, c, e, h1.u hb, h2⟩
 ty h hg hne := by obtain ⟨A, c, e, h1, h2⟩ := h; exact ⟨A, c, e, h1.y hg (by simpa using hne), h2⟩
 tm h hg := by obtain ⟨A, c, e, h1, h2⟩ := h; exact ⟨A, c, e, h1.m hg, h2⟩

def gArr (n : Nat) : GoT { l : List UInt8 // l.length = n } where
 sz := n
 tys := []
 R _ cs a := cs = B8 a.1
 T _ cs a := cs = B8 a.1
 len := fun {w cs a} h => by rw [h, B8_length]; exact a.2
 u h _ := h
 tr h := h
 tu h _ := h
 ty h _ _ := h
 tm h _ := h

def GoT.pair {α β : Type} (X : GoT α) (Y : GoT β) : GoT (α × β) where
 sz := X.sz + Y.sz
 tys := X.tys ++ Y.tys
 R w cs a := ∃ c1 c2, cs = c1 ++ c2 ∧ X.R w c1 a.1 ∧ Y.R w c2 a.2
 T w cs a := ∃ c1 c2, cs = c1 ++ c2 ∧ X.T w c1 a.1 ∧ Y.T w c2 a.2
 len h := by obtain ⟨c1, c2, rfl, h1, h2⟩ := h; rw [List.length_append, X.len h1, Y.len h2]
 u h hb := by obtain ⟨c1, c2, e, h1, h2⟩ := h; exact ⟨c1, c2, e, X.u h1 hb, Y.u h2 hb⟩
 tr h := by obtain ⟨c1, c2, e, h1, h2⟩ := h; exact ⟨c1, c2, e, X.tr h1, Y.tr h2⟩
 tu h hb := by obtain ⟨c1, c2, e, h1, h2⟩ := h; exact ⟨c1, c2, e, X.tu h1 hb, Y.tu h2 hb⟩
 ty h hg hne := by
  obtain ⟨c1, c2, e, h1, h2⟩ := h
  rw [List.mem_append, not_or] at hne
  exact ⟨c1, c2, e, X.ty h1 hg hne.1, Y.ty h2 hg hne.2⟩
 tm h hg := by obtain ⟨c1, c2, e, h1, h2⟩ := h; exact ⟨c1, c2, e, X.tm h1 hg, Y.tm h2 hg⟩
def GoT.map {α β : Type} (f : α → β) (X : GoT α) : GoT β where
 sz := X.sz
 tys := X.tys
 R w cs b := ∃ a, f a = b ∧ X.R w cs a
 T w cs b := ∃ a, f a = b ∧ X.T w cs a
 len h := by obtain ⟨a, _, h⟩ := h; exact X.len h
 u h hb := by obtain ⟨a, e, h⟩ := h; exact ⟨a, e, X.u h hb⟩
 tr h := by obtain ⟨a, e, h⟩ := h; exact ⟨a, e, X.tr h⟩
 tu h hb := by obtain ⟨a, e, h⟩ := h; exact ⟨a, e, X.tu h hb⟩
 ty h hg hne := by obtain ⟨a, e, h⟩ := h; exact ⟨a, e, X.ty h hg hne⟩
 tm h hg := by obtain ⟨a, e, h⟩ := h; exact ⟨a, e, X.tm h hg⟩

def part (xs : List Value) (m i : Nat) : List Value := (xs.drop (i * m)).take m
theorem part_get {xs : List Value} {m i j : Nat} (hj : j < m) : (part xs m i)[j]? = xs[i * m + j]? := by
 unfold part
 rw [List.getElem?_take_of_lt hj, List.getElem?_drop]
def CellsAt (w : World) (A : Option Addr) (k : Nat) (cs : List Value) : Prop := ∀ j v, cs[j]? = some v → w.cell? (adr A (k + j)) = some v
section
variable {w w' : World} {A : Option Addr} {k n m : Nat} {cs xs : List Value}
theorem CellsAt.u (h : CellsAt w A k cs) (hb : Below w.heap.size w w') : CellsAt w' A k cs := fun j v hj => (hb.cell (block_lt_of_cell (h j v hj))).trans (h j v hj)
theorem Reads.cellsAt {i : Nat} (h : Reads w m A n xs) (hi : i < n) (h0 : 0 < m) : CellsAt w A (i * m) (part xs m i) := fun j v hj => by
 have hne : xs ≠ [] := fun e => by
  have := h.1
  rw [e, List.length_nil] at this
  rcases Nat.mul_eq_zero.1 this.symm with h | h <;> omega
 have hjm : j < m := by
  rcases Nat.lt_or_ge j m with h1 | h1
  ·exact h1
  ·rw [List.getElem?_eq_none (by unfold part; rw [List.length_take]; omega)] at hj; cases hj
 rw [part_get hjm] at hj
 exact (h.adr_ hne).2 _ _ hj
end
def GoT.slice {α : Type} (e : TypeId) (X : GoT α) : GoT (List α) where
 sz := 1
 tys := e :: X.tys
 R w cs l := ∃ A c xs, cs = [.slice A l.length c] ∧ l.length ≤ c ∧ c ≤ maxLen ∧ Reads w X.sz A l.length xs ∧ ∀ i (h : i < l.length), X.R w (part xs X.sz i) l[i]
 T w cs l := ∃ A c xs, cs = [.slice A l.length c] ∧ l.length ≤ c ∧ c ≤ maxLen ∧ Reads w X.sz A l.length xs ∧ (∀ k, blk A = some k → TyAt w k e) ∧ ∀ i (h : i < l.length), X.T w (part xs X.sz i) l[i]
 len h := by obtain ⟨A, c, xs, rfl, _⟩ := h; rfl
 u h hb := by obtain ⟨A, c, xs, e, h1, h2, h3, h4⟩ := h; exact ⟨A, c, xs, e, h1, h2, h3.below hb, fun i hi => X.u (h4 i hi) hb⟩
 tr h := by obtain ⟨A, c, xs, e, h1, h2, h3, _, h4⟩ := h; exact ⟨A, c, xs, e, h1, h2, h3, fun i hi => X.tr (h4 i hi)⟩
 tu h hb := by
  obtain ⟨A, c, xs, e, h1, h2, h3, h4, h5⟩ := h
  exact ⟨A, c, xs, e, h1, h2, h3.below hb, fun k hk => (h4 k hk).keep (hb.block k (h4 k hk).lt), fun i hi => X.tu (h5 i hi) hb⟩
 ty h hg hne := by
  obtain ⟨A, c, xs, e, h1, h2, h3, h4, h5⟩ := h
  rw [List.mem_cons, not_or] at hne
  have hb := grew_blk hg h4 hne.1
  refine ⟨A, c, xs, e, h1, h2, h3.grown hg.g hb, fun k hk => (h4 k hk).keep (hg.g.block k (h4 k hk).lt (fun e => ?_)), fun i hi => X.ty (h5 i hi) hg hne.2⟩
  rcases hb with h6 | h6
  ·rw [h6] at hk; cases hk
  ·exact h6 (hk.trans e)
 tm h hg := by
  obtain ⟨A, c, xs, e, h1, h2, h3, h4, h5⟩ := h
  have hb := growm_blk hg h4
  refine ⟨A, c, xs, e, h1, h2, h3.grown hg.g hb, fun k hk => (h4 k hk).keep (hg.g.block k (h4 k hk).lt (fun e => ?_)), fun i hi => X.tm (h5 i hi) hg⟩
  rcases hb with h6 | h6
  ·rw [h6] at hk; cases hk
  ·exact h6 (hk.trans e)

def RSl {α : Type} (X : GoT α) (w : World) (A : Option Addr) (L : List α) : Prop := ∃ xs, Reads w X.sz A L.length xs ∧ ∀ i (h : i < L.length), X.R w (part xs X.sz i) L[i]
section
variable {α : Type} {X : GoT α} {w w' : World} {A : Option Addr} {L : List α}
theorem RSl.u (h : RSl X w A L) (hb : Below w.heap.size w w') : RSl X w' A L := by obtain ⟨xs, h1, h2⟩ := h; exact ⟨xs, h1.below hb, fun i hi => X.u (h2 i hi) hb⟩
theorem RSl.some_ (h : RSl X w A L) (h0 : 0 < X.sz) (hl : 0 < L.length) : A = some (A.getD ⟨0, 0, none⟩) := by obtain ⟨xs, h1, h2⟩ := h; exact h1.some_ h0 hl
theorem RSl.elem (h : RSl X w A L) (h0 : 0 < X.sz) {i : Nat} (hi : i < L.length) : ∃ cs, CellsAt w A (i * X.sz) cs ∧ X.R w cs L[i] := by obtain ⟨xs, h1, h2⟩ := h; exact ⟨_, h1.cellsAt hi h0, h2 i hi⟩
theorem slice_RSl {e : TypeId} {cs : List Value} (h : (GoT.slice e X).R w cs L) : ∃ A c, cs = [.slice A L.length c] ∧ RSl X w A L ∧ L.length ≤ c ∧ c ≤ maxLen := by
 obtain ⟨A, c, xs, rfl, h1, h2, h3, h4⟩ := h
 exact ⟨A, c, rfl, ⟨xs, h3, h4⟩, h1, h2⟩
end

/-! Arguments, opened. -/
structure Opens {α : Type} (P : Program) (t : TypeId) (X : GoT α) : Prop where
 cells : P.cellsOf t = X.sz
 o : ∀ (H : Type) (enc : TypeId × Value → H) (W : World) (fuel : Nat) (cs : List Value) (x : DataW H × List MemPlace), DataW.trod enc P W 0 (fun _ => true) true fuel t cs = some x → ∃ a, X.R W cs a
section
variable {α β γ δ : Type} {P : Program} {t e : TypeId}
theorem opens_int {k : IntKind} (hu : P.underlying t = some (.int k)) (hc : P.cellsOf t = 1) : Opens P t (gInt k) := ⟨hc, fun H enc W fuel cs x h => by
 obtain ⟨n, rfl, _, hw⟩ := DataW.trod_int hu h
 exact ⟨n, rfl, hw⟩⟩
theorem opens_bool (hu : P.underlying t = some .bool) (hc : P.cellsOf t = 1) : Opens P t gBool := ⟨hc, fun H enc W fuel cs x h => by
 obtain ⟨n, rfl, _⟩ := DataW.trod_bool hu h
 exact ⟨n, rfl, trivial⟩⟩
theorem opens_bytes (hu : P.underlying t = some (.slice 5)) (he : P.underlying 5 = some (.int .u8)) (hc : P.cellsOf 5 = 1) (ht : P.cellsOf t = 1) : Opens P t gBytes := ⟨ht, fun H enc W fuel cs x h => by
 rcases open_ints hu he hc h with ⟨hcs, hx⟩ | ⟨a, len, cap, zs, hcs, _, hl, hm, hz, hx, hcell, hwz⟩
 ·exact ⟨[], none, 0, hcs, Rd.nil _ _, Nat.le_refl _, Nat.zero_le _⟩
 ·have hzl : zs.length = cap := by simpa using hz
  have hr : Reads W 1 (some a) (zs.take len).length ((zs.take len).map (Value.int .u8)) := by
   have := reads_of_cells (w := W) (a := a) (xs := (zs.take len).map (Value.int .u8)) (fun i v hv => by
    have hi : i < (zs.take len).length := by
     rcases Nat.lt_or_ge i (zs.take len).length with h | h
     ·exact h
     ·rw [List.getElem?_eq_none (by simpa using h)] at hv; cases hv
    rw [List.length_take] at hi
    rw [hcell i (by omega)]
    have hi2 : i < zs.length := by omega
    rw [List.getElem?_map, List.getElem?_take_of_lt (by omega), List.getElem?_eq_getElem hi2] at hv
    rw [← Option.some.inj hv]
    simp [hi2])
   simpa using this
  have hb : ∀ n ∈ zs.take len, n = (((UInt8.ofNat n.toNat).toNat : Nat) : Int) := fun n hn => by
   have h1 := bounds_u8 (hwz n (List.mem_of_mem_take hn))
   exact byte_of n h1.1 h1.2
  have e : (zs.take len).map (Value.int .u8) = B8 ((zs.take len).map fun n => UInt8.ofNat n.toNat) := by
   unfold B8
   rw [List.map_map]
   exact List.map_congr_left fun n hn => by simp only [Function.comp]; rw [← hb n hn]
  refine ⟨(zs.take len).map fun n => UInt8.ofNat n.toNat, some a, cap, ?_, ?_, by simp; omega, hm⟩
  ·rw [hcs]; simp; omega
  ·unfold Rd
   rw [← e, List.length_map]
   exact hr⟩
theorem part_append_lt {xs ys : List Value} {m i k : Nat} (hx : xs.length = k * m) (hi : i < k) : part (xs ++ ys) m i = part xs m i := by
 have h1 : (i + 1) * m ≤ k * m := Nat.mul_le_mul_right _ hi
 rw [Nat.add_mul, Nat.one_mul] at h1
 unfold part
 rw [List.drop_append_of_le_length (by omega), List.take_append_of_le_length (by rw [List.length_drop]; omega)]
theorem part_append_eq {xs ys : List Value} {m k : Nat} (hx : xs.length = k * m) (hy : ys.length = m) : part (xs ++ ys) m k = ys := by
 unfold part
 rw [← hx, List.drop_left, ← hy, List.take_length]
theorem build_rows {X : GoT α} {W : World} {a : Addr} : ∀ (k : Nat), (∀ i, i < k → ∃ cs' z, W.cells? 0 (a.add (i * X.sz)) X.sz = some cs' ∧ X.R W cs' z) →
  ∃ (l : List α) (xs : List Value), l.length = k ∧ xs.length = k * X.sz ∧ (∀ j v, xs[j]? = some v → W.cell? (a.add j) = some v) ∧ ∀ i (h : i < l.length), X.R W (part xs X.sz i) l[i]
 | 0, _ => ⟨[], [], rfl, by simp, fun j v h => by simp at h, fun i h => absurd h (Nat.not_lt_zero _)⟩
 | k + 1, h => by
  obtain ⟨l, xs, h1, h2, h3, h4⟩ := build_rows k (fun i hi => h i (by omega))
  obtain ⟨cs', z, h5, h6⟩ := h k (by omega)
  obtain ⟨_, h7, h8⟩ := World.cells?_some h5
  refine ⟨l ++ [z], xs ++ cs', by simp [h1], by rw [List.length_append, h2, h7, Nat.add_mul, Nat.one_mul], fun j v hj => ?_, fun i hi => ?_⟩
  ·rcases Nat.lt_or_ge j xs.length with hl | hl
   ·rw [List.getElem?_append_left hl] at hj
    exact h3 j v hj
   ·rw [List.getElem?_append_right hl] at hj
    have hjl : j - xs.length < X.sz := by
     rcases Nat.lt_or_ge (j - xs.length) X.sz with h9 | h9
     ·exact h9
     ·rw [List.getElem?_eq_none (by omega)] at hj; cases hj
    have := h8 _ hjl
    rw [hj, add_of_add] at this
    rw [← this]
    congr 2
    omega
  ·rcases Nat.lt_or_ge i l.length with hl | hl
   ·rw [part_append_lt h2 (by omega), List.getElem_append_left hl]
    exact h4 i hl
   ·have hik : i = k := by simp at hi; omega
    subst hik
    rw [part_append_eq h2 h7, List.getElem_append_right hl]
    simpa using h6
theorem opens_slice {X : GoT α} (hu : P.underlying t = some (.slice e)) (hc : P.cellsOf t = 1) (h0 : 0 < X.sz) (hX : Opens P e X) : Opens P t (GoT.slice e X) := ⟨hc, fun H enc W fuel cs x h => by
 rcases Go.Deep.open_slice hu h with ⟨rfl, _⟩ | ⟨a, len, cap, m, n, D, Pl, rfl, _, hl, hm, hmm, _, hx⟩
 ·exact ⟨[], none, 0, [], rfl, Nat.le_refl _, Nat.zero_le _, Reads.none_ _ _ _, fun i h => absurd h (Nat.not_lt_zero _)⟩
 ·rw [if_pos rfl] at hmm
  subst hmm
  obtain ⟨l, xs, h1, h2, h3, h4⟩ := build_rows (X := X) (W := W) (a := a) len (fun i hi => by
   obtain ⟨cs', h1, h2⟩ := hx i (by omega)
   obtain ⟨z, hz⟩ := hX.o _ _ _ _ _ _ h2
   rw [hX.cells] at h1
   exact ⟨cs', z, h1, hz⟩)
  refine ⟨l, some a, m, xs, by rw [h1], by omega, hm, ⟨by rw [h1]; exact h2, fun hn => ?_⟩, h4⟩
  have h00 : ∃ v, xs[0]? = some v := by
   cases xs with
   | nil => exact absurd rfl hn
   | cons x _ => exact ⟨x, rfl⟩
  obtain ⟨v0, hv0⟩ := h00
  have hc := h3 0 v0 hv0
  rw [show a.add 0 = a by simp [Addr.add]] at hc
  have hs := spot_of_cell hc
  exact ⟨a.block, a.off, by rw [← hs], fun j u hu => by rw [← add_plain, ← hs]; exact h3 j u hu⟩⟩
inductive OpensF (P : Program) : (α : Type) → List Field → Nat → GoT α → Prop where
 | one {α : Type} {f : Field} {off : Nat} {X : GoT α} (h : Opens P f.type X) (ho : f.offset = off) : OpensF P α [f] off X
 | more {α β : Type} {f : Field} {fs : List Field} {off : Nat} {X : GoT α} {Y : GoT β} (h : Opens P f.type X) (ho : f.offset = off) (hr : OpensF P β fs (off + X.sz) Y) : OpensF P (α × β) (f :: fs) off (X.pair Y)
theorem OpensF.open_ {α : Type} {fs : List Field} {off : Nat} {X : GoT α} (hF : OpensF P α fs off X) (H : Type) (enc : TypeId × Value → H) (W : World) (fuel : Nat) : ∀ (cs : List Value), cs.length = off + X.sz →
  (∀ (i : Nat) (f : Field), fs[i]? = some f → ∃ x, DataW.trod enc P W 0 (fun _ => true) true fuel f.type ((cs.drop f.offset).take (P.cellsOf f.type)) = some x) → ∃ a, X.R W (cs.drop off) a := by
 induction hF with
 | one h ho =>
  intro cs hl hx
  obtain ⟨x, h1⟩ := hx 0 _ rfl
  rw [ho, h.cells] at h1
  obtain ⟨a, ha⟩ := h.o _ _ _ _ _ _ h1
  rw [List.take_of_length_le (by rw [List.length_drop]; omega)] at ha
  exact ⟨a, ha⟩
 | @more α β f fs off X Y h ho hr ih =>
  intro cs hl hx
  have hl' : cs.length = off + (X.sz + Y.sz) := hl
  obtain ⟨x, h1⟩ := hx 0 f rfl
  rw [ho, h.cells] at h1
  obtain ⟨a, ha⟩ := h.o _ _ _ _ _ _ h1
  obtain ⟨b, hb⟩ := ih cs (by omega) (fun i f' hf => hx (i + 1) f' (by simpa using hf))
  refine ⟨(a, b), _, _, ?_, ha, hb⟩
  rw [← List.drop_drop, List.take_append_drop]
theorem opens_struct {α : Type} {fs : List Field} {X : GoT α} (hu : P.underlying t = some (.struct fs.toArray)) (hc : P.cellsOf t = X.sz) (hF : OpensF P α fs 0 X) : Opens P t X := ⟨hc, fun H enc W fuel cs x h => by
 obtain ⟨xs, n, rfl, _, hl, hn, hx⟩ := DataW.trod_struct hu h
 have := hF.open_ H enc W n cs (by rw [hl, hc]; omega) (fun i f hf => by
  have h1 := hx i f (by simpa using hf)
  have hi : i < xs.length := by
   rw [hn]
   rcases Nat.lt_or_ge i fs.toArray.size with h2 | h2
   ·exact h2
   ·rw [List.getElem?_eq_none (by simpa using h2)] at hf; cases hf
  rw [List.getElem?_eq_getElem hi] at h1
  exact ⟨_, h1⟩)
 simpa using this⟩
theorem opens_map {α β : Type} {f : α → β} {X : GoT α} (h : Opens P t X) : Opens P t (X.map f) := ⟨h.cells, fun H enc W fuel cs x hx => by
 obtain ⟨a, ha⟩ := h.o _ _ _ _ _ _ hx
 exact ⟨f a, a, rfl, ha⟩⟩
end
theorem open_slc {α : Type} {H : Type} {enc : TypeId × Value → H} {P : Program} {W : World} {base : Nat} {t e : TypeId} {X : GoT α} (hX : Opens P t X) (hu : P.underlying t = some (.slice e)) {v : Value} {d : DataW H} {p : List MemPlace}
  (hok : Value.okWide P W .any base t v) (h : DataW.Trod enc P W 0 (fun _ => true) true t v d p) : ∃ (a : α), X.R W [v] a := by
 obtain ⟨A, n, c, rfl⟩ := okWide_slice hu hok
 obtain ⟨fuel, hf⟩ := h
 exact hX.o _ _ _ _ _ _ hf
end Go.Proofs.YtnnhenafhalobaaGreat
namespace Go.Proofs.YtnnhenafhalobaaGreat
set_option maxRecDepth 100000
open Go.RowKit
theorem part_flatMap {f : Value → List Value} {m : Nat} : ∀ (vs : List Value) (_ : ∀ v ∈ vs, (f v).length = m) (i : Nat) (hi : i < vs.length), part (vs.flatMap f) m i = f vs[i]
 | v :: vs, h, 0, _ => by
  simp only [part, Nat.zero_mul, List.drop_zero, List.flatMap_cons, List.getElem_cons_zero]
  rw [← h v (by simp)]
  exact List.take_left
 | v :: vs, h, i + 1, hi => by
  have ih := part_flatMap vs (fun u hu => h u (by simp [hu])) i (by simpa using hi)
  simp only [part, List.flatMap_cons, List.getElem_cons_succ] at ih ⊢
  rw [← ih, show (i + 1) * m = (f v).length + i * m by rw [h v (by simp), Nat.add_mul]; omega, ← List.drop_drop, List.drop_left]
section
variable {α : Type} {X : GoT α} {e e' : TypeId} {w w' : World} {lo hi lo' hi' c b : Nat} {A : Option Addr} {L M : List α} {row : Option Nat}
def RSlT (X : GoT α) (e : TypeId) (w : World) (A : Option Addr) (L : List α) : Prop := ∃ xs, Reads w X.sz A L.length xs ∧ (∀ k, blk A = some k → TyAt w k e) ∧ ∀ i (h : i < L.length), X.T w (part xs X.sz i) L[i]
theorem RSlT.u (h : RSlT X e w A L) (hb : Below w.heap.size w w') : RSlT X e w' A L := by
 obtain ⟨xs, h1, h2, h3⟩ := h
 exact ⟨xs, h1.below hb, fun k hk => (h2 k hk).keep (hb.block k (h2 k hk).lt), fun i hi => X.tu (h3 i hi) hb⟩
theorem RSlT.to_RSl (h : RSlT X e w A L) : RSl X w A L := by obtain ⟨xs, h1, h2, h3⟩ := h; exact ⟨xs, h1, fun i hi => X.tr (h3 i hi)⟩
def OwnS (X : GoT α) (e : TypeId) (w : World) (lo hi : Nat) (A : Option Addr) (c : Nat) (L : List α) : Prop := ∃ xs, RowH w lo hi e X.sz A L.length c xs ∧ ∀ i (h : i < L.length), X.T w (part xs X.sz i) L[i]
theorem OwnS.u (h : OwnS X e w lo hi A c L) (hb : Below w.heap.size w w') : OwnS X e w' lo hi A c L := by
 obtain ⟨xs, h1, h2⟩ := h
 exact ⟨xs, h1.u hb, fun i hi => X.tu (h2 i hi) hb⟩
theorem OwnS.d (h : OwnS X e w lo hi A c L) : OwnS X e w.drew lo hi A c L := h.u (below_drew w)
theorem OwnS.y (h : OwnS X e w lo hi A c L) (hg : Grew w w' e' row) (hne : e' ∉ e :: X.tys) : OwnS X e w' lo hi A c L := by
 obtain ⟨xs, h1, h2⟩ := h
 rw [List.mem_cons, not_or] at hne
 exact ⟨xs, h1.y hg hne.1, fun i hi => X.ty (h2 i hi) hg hne.2⟩
theorem OwnS.q (h : OwnS X e w lo hi A c L) (hg : Grew w w' e' row) (ha : Ap row lo hi) (hne : e' ∉ X.tys) : OwnS X e w' lo hi A c L := by
 obtain ⟨xs, h1, h2⟩ := h
 exact ⟨xs, h1.k hg.g ha, fun i hi => X.ty (h2 i hi) hg hne⟩
theorem OwnS.m (h : OwnS X e w lo hi A c L) (hg : GrewM w w' b) : OwnS X e w' lo hi A c L := by
 obtain ⟨xs, h1, h2⟩ := h
 exact ⟨xs, h1.m hg, fun i hi => X.tm (h2 i hi) hg⟩
theorem OwnS.ap (h : OwnS X e w lo hi A c L) (hd : hi ≤ lo' ∨ hi' ≤ lo) : Ap (blk A) lo' hi' := by obtain ⟨xs, h1, _⟩ := h; exact h1.ap hd
theorem OwnS.cap (h : OwnS X e w lo hi A c L) : L.length ≤ c := by obtain ⟨xs, h1, _⟩ := h; exact h1.cap
theorem OwnS.nil_ : OwnS X e w lo hi none 0 [] := ⟨[], RowH.nil _ _ _ _ _, fun i h => absurd h (Nat.not_lt_zero _)⟩
theorem OwnS.base (h : OwnS X e w lo hi A c L) (h1 : lo' ≤ lo) (h2 : hi ≤ hi') : OwnS X e w lo' hi' A c L := by obtain ⟨xs, h3, h4⟩ := h; exact ⟨xs, h3.base h1 h2, h4⟩
theorem OwnS.to_RSlT (h : OwnS X e w lo hi A c L) : RSlT X e w A L := by obtain ⟨xs, h1, h2⟩ := h; exact ⟨xs, h1.rd, h1.ty, h2⟩
theorem OwnS.to_RSl (h : OwnS X e w lo hi A c L) : RSl X w A L := h.to_RSlT.to_RSl
theorem litS_part {vs : List Value} {L : List α} (hn : vs.length = L.length) (hX : ∀ i (h : i < L.length), ∃ v, vs[i]? = some v ∧ v.cells.size = X.sz ∧ X.T w v.cells.toList L[i]) :
  ∀ i (h : i < L.length), X.T w (part (vs.flatMap fun v => v.cells.toList) X.sz i) L[i] := fun i h => by
 have hall : ∀ v ∈ vs, v.cells.toList.length = X.sz := fun v hv => by
  obtain ⟨j, hj, rfl⟩ := List.getElem_of_mem hv
  obtain ⟨u, h1, h2, _⟩ := hX j (by omega)
  rw [List.getElem?_eq_getElem hj] at h1
  injection h1 with h1
  rw [h1, Array.length_toList]; exact h2
 rw [part_flatMap vs hall i (by omega)]
 obtain ⟨v, h1, _, h3⟩ := hX i h
 rw [List.getElem?_eq_getElem (by omega)] at h1
 injection h1 with h1
 rw [h1]; exact h3
end
section
variable {α : Type} {X : GoT α} {P : Program} {fn : Func} {F : Ending → World → Prop} {N : Nat} {ks : List K} {ops : Array Oper} {tg : Tags} {l : List Oper} {fr : Fr} {w : World} {ty t e : TypeId} {z : Value} {pos : String} {aft : Array Edge} {gd : Option (Nat × Bool)} {d n sz bytes c j q lo hi : Nat} {x y : Operand} {A B : Option Addr} {L M : List α}
theorem wl_litS {ps : Array (Nat × Operand)} {xs : List Operand} {vs : List Value} (T : RowT P t e z X.sz bytes) (hs : ∀ w, (sizeOf e).run P w = .ok X.sz w) (hz : ∀ w, (zeroValue e).run P w = .ok z w) (hxs : ps.toList.map Prod.snd = xs) (hps : ps = ((List.range' 0 n).zip xs).toArray) (hx : fr.evs xs = some vs) (hn : vs.length = n) (hL : L.length = n)
  (hX : ∀ i (h : i < L.length), ∃ v, vs[i]? = some v ∧ v.cells.size = X.sz ∧ X.T w v.cells.toList L[i]) (hm : Nat.ble (n * X.sz) 1000000 = true)
  (hk : ∀ A w', OwnS X e w' w.heap.size w'.heap.size A n L → Below w.heap.size w w' → WL P fn F N ks ops tg.tail l ((d, .slice A n n) :: fr) w')
  (ht : tg.loud = true := by rfl) (hg : onG ops fr gd = true := by rfl) (hd : Nat.blt d N = true := by rfl) : WL P fn F N ks ops tg (⟨some d, .buildSlice t n ps, ty, pos, aft, gd⟩ :: l) fr w := by
 refine wl_litR T hs hz hxs hps hx hn (fun v hv => ?_) hm (fun A w' h1 h2 => hk A w' ⟨_, ?_, fun i h => X.tu (litS_part (w := w) (by omega) hX i h) h2⟩ h2) ht hg hd
 ·obtain ⟨j, hj, rfl⟩ := List.getElem_of_mem hv
  obtain ⟨u, h1, h2, _⟩ := hX j (by omega)
  rw [List.getElem?_eq_getElem hj] at h1
  injection h1 with h1
  rw [h1]; exact h2
 ·rw [hL]; exact h1
theorem litR_part {vs : List Value} (hn : vs.length = L.length) (hX : ∀ i (h : i < L.length), ∃ v, vs[i]? = some v ∧ v.cells.size = X.sz ∧ X.R w v.cells.toList L[i]) :
  ∀ i (h : i < L.length), X.R w (part (vs.flatMap fun v => v.cells.toList) X.sz i) L[i] := fun i h => by
 have hall : ∀ v ∈ vs, v.cells.toList.length = X.sz := fun v hv => by
  obtain ⟨j, hj, rfl⟩ := List.getElem_of_mem hv
  obtain ⟨u, h1, h2, _⟩ := hX j (by omega)
  rw [List.getElem?_eq_getElem hj] at h1
  injection h1 with h1
  rw [h1, Array.length_toList]; exact h2
 rw [part_flatMap vs hall i (by omega)]
 obtain ⟨v, h1, _, h3⟩ := hX i h
 rw [List.getElem?_eq_getElem (by omega)] at h1
 injection h1 with h1
 rw [h1]; exact h3
theorem wl_litRS {ps : Array (Nat × Operand)} {xs : List Operand} {vs : List Value} (T : RowT P t e z X.sz bytes) (hs : ∀ w, (sizeOf e).run P w = .ok X.sz w) (hz : ∀ w, (zeroValue e).run P w = .ok z w) (hxs : ps.toList.map Prod.snd = xs) (hps : ps = ((List.range' 0 n).zip xs).toArray) (hx : fr.evs xs = some vs) (hn : vs.length = n) (hL : L.length = n)
  (hX : ∀ i (h : i < L.length), ∃ v, vs[i]? = some v ∧ v.cells.size = X.sz ∧ X.R w v.cells.toList L[i]) (hm : Nat.ble (n * X.sz) 1000000 = true)
  (hk : ∀ A w', RSl X w' A L → Below w.heap.size w w' → WL P fn F N ks ops tg.tail l ((d, .slice A n n) :: fr) w')
  (ht : tg.loud = true := by rfl) (hg : onG ops fr gd = true := by rfl) (hd : Nat.blt d N = true := by rfl) : WL P fn F N ks ops tg (⟨some d, .buildSlice t n ps, ty, pos, aft, gd⟩ :: l) fr w := by
 refine wl_litR T hs hz hxs hps hx hn (fun v hv => ?_) hm (fun A w' h1 h2 => hk A w' ⟨_, ?_, fun i h => X.u (litR_part (w := w) (by omega) hX i h) h2⟩ h2) ht hg hd
 ·obtain ⟨j, hj, rfl⟩ := List.getElem_of_mem hv
  obtain ⟨u, h1, h2, _⟩ := hX j (by omega)
  rw [List.getElem?_eq_getElem hj] at h1
  injection h1 with h1
  rw [h1]; exact h2
 ·rw [hL]; exact h1.rd
theorem wl_appS (T : RowT P t e z X.sz bytes) (hx : fr.ev x = some (.slice A n c)) (hown : OwnS X e w lo hi A c L) (hn : n = L.length) (hy : fr.ev y = some (.slice B j q)) (hr : RSlT X e w B M) (hj : j = M.length) (hne : e ∉ X.tys) (h1 : ∀ w cs a, X.T w cs a → ∀ u ∈ cs, u.oneCell' = true) (hlen : (L.length + M.length) * bytes ≤ 140737488355328) (hmx : L.length + M.length ≤ 1000000000) (hB : lo ≤ w.heap.size)
  (h : ∀ A' c' w', OwnS X e w' lo w'.heap.size A' c' (L ++ M) → Grew w w' e (blk A) → Below lo w w' → (blk A' = blk A ∨ blk A' = some w.heap.size) → WL P fn F N ks ops tg.tail l ((d, .slice A' (L ++ M).length c') :: fr) w')
  (ht : tg.loud = true := by rfl) (hg : onG ops fr gd = true := by rfl) (hd : Nat.blt d N = true := by rfl) (hq : tg.calm = false ∨ blk A = none ∨ blk A = tg.row := by exact .inl rfl) :
  WL P fn F N ks ops tg (⟨some d, .call { callee := .builtin .append, args := #[x, y], argTypes := #[t, t] }, ty, pos, aft, gd⟩ :: l) fr w := by
 subst hn; subst hj
 obtain ⟨xs, g1, g2⟩ := hown
 obtain ⟨ms, r1, r2, r3⟩ := hr
 have hxl : xs.length = L.length * X.sz := g1.rd.1
 have hml : ms.length = M.length * X.sz := r1.1
 refine wl_appR T hx g1 hy r1 (fun u hu => ?_) (by simp only [maxLen]; omega) hlen hB (fun A' c' w' k1 k2 k3 k4 => ?_) ht hg hd hq
 ·obtain ⟨i, hi, rfl⟩ := List.getElem_of_mem hu
  have h0 := T.h0
  have hq : i / X.sz < M.length := (Nat.div_lt_iff_lt_mul h0).2 (by omega)
  refine h1 _ _ _ (r3 _ hq) _ (List.mem_of_getElem? (i := i % X.sz) ?_)
  rw [part_get (Nat.mod_lt _ h0), Nat.div_add_mod' i X.sz]
  exact List.getElem?_eq_getElem hi
 ·have e2 : (L ++ M).length = L.length + M.length := List.length_append
  rw [← e2] at k1 ⊢
  refine h A' c' w' ⟨_, k1, fun i hi => ?_⟩ k2 k3 k4
  rcases Nat.lt_or_ge i L.length with hl | hl
  ·rw [part_append_lt hxl hl, List.getElem_append_left hl]
   exact X.ty (g2 i hl) k2 hne
  ·rw [List.getElem_append_right hl]
   have hi2 : i - L.length < M.length := by rw [e2] at hi; omega
   have := X.ty (r3 _ hi2) k2 hne
   have e3 : part (xs ++ ms) X.sz i = part ms X.sz (i - L.length) := by
    unfold part
    rw [show i * X.sz = xs.length + (i - L.length) * X.sz by rw [hxl, ← Nat.add_mul]; congr 1; omega, ← List.drop_drop, List.drop_left]
   rw [e3]; exact this
end
end Go.Proofs.YtnnhenafhalobaaGreat
namespace Go.Proofs.YtnnhenafhalobaaGreat
set_option maxRecDepth 100000
open Go.RowKit
structure Chg (lo hi : Nat) (w w' : World) : Prop where
 os : w'.os = w.os
 tape : w'.tape = w.tape
 output : w'.output = w.output
 size : w.heap.size ≤ w'.heap.size
 block : ∀ k, k < w.heap.size → (k < lo ∨ hi ≤ k) → w'.heap[k]? = w.heap[k]?
section
variable {w w' w'' : World} {lo hi lo' hi' B g sz n cp : Nat} {e : TypeId} {A : Option Addr} {xs : List Value} {l : List UInt8} {row : Option Nat}
theorem Chg.below (h : Chg lo hi w w') (hB : B ≤ w.heap.size) (hl : B ≤ lo) : Below B w w' := ⟨h.os, h.tape, h.output, h.size, fun k hk => h.block k (by omega) (.inl (by omega))⟩
theorem Chg.of_below (h : Below w.heap.size w w') : Chg lo hi w w' := ⟨h.os, h.tape, h.output, h.size, fun k hk _ => h.block k hk⟩
theorem Chg.of_lo (h : Below lo w w') (hh : w.heap.size ≤ hi) : Chg lo hi w w' := ⟨h.os, h.tape, h.output, h.size, fun k hk a => h.block k (by omega)⟩
theorem Chg.refl : Chg lo hi w w := Chg.of_below (Below.refl _ _)
theorem Chg.drew : Chg lo hi w w.drew := Chg.of_below (below_drew w)
theorem Chg.of_g (h : w.grownBy w' row) (hr : ∀ k, row = some k → lo ≤ k ∧ k < hi) : Chg lo hi w w' := ⟨h.os, h.tape, h.output, h.size, fun k hk a => h.block k hk (fun e => by have := hr k e.symm; omega)⟩
theorem Chg.of_g1 (h : w.grownBy w' (some g)) (h1 : lo ≤ g) (h2 : g < hi) : Chg lo hi w w' := Chg.of_g h (fun k e => by injection e with e; omega)
theorem Chg.trans (h : Chg lo hi w w') (k : Chg lo hi w' w'') : Chg lo hi w w'' :=
 ⟨k.os.trans h.os, k.tape.trans h.tape, k.output.trans h.output, Nat.le_trans h.size k.size, fun i hi ha => (k.block i (Nat.lt_of_lt_of_le hi h.size) ha).trans (h.block i hi ha)⟩
theorem Chg.thenB (h : Chg lo hi w w') (k : Below w'.heap.size w' w'') : Chg lo hi w w'' := h.trans (Chg.of_below k)
theorem Chg.andNew (h : Chg lo hi w w') (k : w'.grownBy w'' row) (hr : ∀ j, row = some j → w.heap.size ≤ j) : Chg lo hi w w'' :=
 ⟨k.os.trans h.os, k.tape.trans h.tape, k.output.trans h.output, Nat.le_trans h.size k.size, fun i hi ha => (k.block i (Nat.lt_of_lt_of_le hi h.size) (fun e => by have := hr i e.symm; omega)).trans (h.block i hi ha)⟩
theorem Chg.wide (h : Chg lo hi w w') (h1 : lo' ≤ lo) (h2 : hi ≤ hi') : Chg lo' hi' w w' := ⟨h.os, h.tape, h.output, h.size, fun k hk a => h.block k hk (by omega)⟩
theorem Blk.c {t : TypeId} {cs : List Value} (h : Blk w g t cs) (hc : Chg lo hi w w') (ha : g < lo ∨ hi ≤ g) : Blk w' g t cs := (hc.block g h.lt ha).trans h
theorem RowH.c (h : RowH w lo hi e sz A n cp xs) (hc : Chg lo' hi' w w') (ha : hi ≤ lo' ∨ hi' ≤ lo) : RowH w' lo hi e sz A n cp xs :=
 ⟨⟨h.o.1, by
  rcases h.o.2 with h3 | ⟨g, cap, cur, h3, h4, h5, h6⟩
  ·exact .inl h3
  ·have hA : A = some ⟨g, 0, none⟩ := by injection h3
   have hg := h.hi g (by rw [hA]; rfl)
   have hl := h.lt g (by rw [hA]; rfl)
   exact .inr ⟨g, cap, cur, h3, h4, (hc.block g hl.2 (by omega)).trans h5, h6⟩⟩, h.hi⟩
theorem OwnH.c (h : OwnH w lo hi A n l) (hc : Chg lo' hi' w w') (ha : hi ≤ lo' ∨ hi' ≤ lo) : OwnH w' lo hi A n l := RowH.c h hc ha
theorem Rd.c (h : Rd w A l) (hc : Chg lo hi w w') (ha : ∀ k, blk A = some k → k < lo ∨ hi ≤ k) : Rd w' A l := by
 by_cases hl : l = []
 ·subst hl; exact ⟨h.1, fun h => absurd rfl h⟩
 ·obtain ⟨b, o, rfl, hcl⟩ := h.2 (fun e => hl (by cases l with | nil => rfl | cons x y => cases e))
  refine ⟨h.1, fun _ => ⟨b, o, rfl, fun j u hj => ?_⟩⟩
  have h1 := hcl j u hj
  have hlt : b < w.heap.size := block_lt_of_cell h1
  rw [← h1]
  show World.cell? w' _ = World.cell? w _
  unfold World.cell?
  rw [show w'.heap[b]? = w.heap[b]? from hc.block b hlt (ha b rfl)]
structure RdB (w : World) (lo hi : Nat) (A : Option Addr) (l : List UInt8) : Prop where
 r : Rd w A l
 b : ∀ k, blk A = some k → lo ≤ k ∧ k < hi
theorem RdB.u (h : RdB w lo hi A l) (hb : Below w.heap.size w w') : RdB w' lo hi A l := ⟨h.r.u hb, h.b⟩
theorem RdB.d (h : RdB w lo hi A l) : RdB w.drew lo hi A l := ⟨h.r.d, h.b⟩
theorem RdB.c (h : RdB w lo hi A l) (hc : Chg lo' hi' w w') (ha : hi ≤ lo' ∨ hi' ≤ lo) : RdB w' lo hi A l := ⟨Rd.c h.r hc (fun k e => by have := h.b k e; omega), h.b⟩
theorem RdB.k (h : RdB w lo hi A l) (hg : w.grownBy w' row) (ha : Ap row lo hi) : RdB w' lo hi A l := by
 refine ⟨h.r.grown hg ?_, h.b⟩
 cases hA : blk A with
 | none => exact .inl rfl
 | some k => exact .inr fun e => by have := h.b k hA; have := ha k e.symm; omega
theorem RdB.to_Rd (h : RdB w lo hi A l) : Rd w A l := h.r
theorem RdB.to_Reads (h : RdB w lo hi A l) : Reads w 1 A l.length (B8 l) := h.r
theorem RdB.base (h : RdB w lo hi A l) (h1 : lo' ≤ lo) (h2 : hi ≤ hi') : RdB w lo' hi' A l := ⟨h.r, fun k e => by have := h.b k e; omega⟩
theorem RdB.nil_ : RdB w lo hi none [] := ⟨Rd.nil w none, fun k e => by cases e⟩
theorem OwnH.rdB (h : OwnH w lo hi A n l) : RdB w lo hi A l := ⟨h.to_Rd, fun k hk => ⟨(RowH.lt h k hk).1, h.hi k hk⟩⟩
theorem Blk.rdB {t : TypeId} (h : Blk w g t (B8 l)) : RdB w g (g + 1) (some ⟨g, 0, none⟩) l :=
 ⟨⟨by rw [B8_length, Nat.mul_one], fun _ => ⟨g, 0, rfl, fun j u hj => by rw [h.cell, Nat.zero_add]; exact hj⟩⟩, fun k e => by simp [blk] at e; omega⟩
theorem OwnS.c0 {α : Type} {X : GoT α} {L : List α} (h : OwnS X e w lo hi A cp L) (hX : ∀ {cs a}, X.T w cs a → X.T w' cs a) (hc : Chg lo' hi' w w') (ha : hi ≤ lo' ∨ hi' ≤ lo) : OwnS X e w' lo hi A cp L := by
 obtain ⟨xs, h1, h2⟩ := h
 exact ⟨xs, h1.c hc ha, fun i hi => hX (h2 i hi)⟩
end
end Go.Proofs.YtnnhenafhalobaaGreat
namespace Go.Proofs.YtnnhenafhalobaaGreat
set_option maxRecDepth 100000
open Go.RowKit
section
variable {P : Program} {fn : Func} {F : Ending → World → Prop} {N : Nat} {ks : List K} {ops : Array Oper} {tg : Tags} {l : List Oper} {fr : Fr} {w w0 : World} {ty t t' xt : TypeId} {pos : String} {aft : Array Edge} {gd : Option (Nat × Bool)} {d : Nat} {x y : Operand} {s u : List UInt8}
theorem o_strU {A : Option Addr} {n c : Nat} {src e dst : TypeId} {l : List UInt8} (hs : P.underlying src = some (.slice e)) (he : P.underlying e = some (.int .u8)) (hd : P.underlying dst = some .string) (hx : fr.ev x = some (.slice A n c)) (hr : Rd w0 A l) (hb : Below w0.heap.size w0 w) (hn : n = l.length) :
  OpV P N fr w (.convert src dst x) ty (.string ⟨l.toArray⟩) w := o_str hs he hd hx hn (hr.below hb)
end
theorem Tryz.rowB : RowT Tryz.prog 35 5 (.int .u8 0) 1 1 := ⟨Tryz.underlying35, by kernel_rfl, rfl, by omega⟩
section
variable {fn : Func} {F : Ending → World → Prop} {N : Nat} {ks : List K} {ops : Array Oper} {tg : Tags} {l : List Oper} {fr : Fr} {w : World} {ty : TypeId} {pos : String} {aft : Array Edge} {gd : Option (Nat × Bool)} {d : Nat} {x y : Operand}
end
end Go.Proofs.YtnnhenafhalobaaGreat
namespace Go.Proofs.YtnnhenafhalobaaGreat
set_option maxRecDepth 100000
open Go.RowKit
abbrev Sec := { l : List UInt8 // l.length = 256 }
abbrev vS (s : Sec) : Value := .agg (B8 s.1).toArray
theorem B8_in : ∀ {l m : List UInt8}, B8 l = B8 m → l = m
 | [], [], _ => rfl
 | [], _ :: _, h => by cases h
 | _ :: _, [], h => by cases h
 | a :: l, b :: m, h => by
  simp only [B8, List.map_cons, List.cons.injEq, Value.int.injEq, true_and] at h
  rw [UInt8.toNat_inj.1 (Int.ofNat.inj h.1), B8_in (l := l) (m := m) h.2]
theorem vS_inj {d e : Sec} (h : vS d = vS e) : d = e := by
 unfold vS at h
 injection h with h
 exact Subtype.ext (B8_in (List.toArray_inj h))
noncomputable def secElem (v : Value) : Option (DataW Unit × List MemPlace) := by
 classical
 exact if h : ∃ s : Sec, v = vS s then some (.lit (.string h.choose.1), []) else none
theorem secElem_mk (s : Sec) : secElem (vS s) = some (.lit (.string s.1), []) := by
 have h : ∃ s' : Sec, vS s = vS s' := ⟨s, rfl⟩
 unfold secElem
 rw [dif_pos h, ← vS_inj h.choose_spec]
theorem secElem_inv {v : Value} {z : DataW Unit × List MemPlace} (h : secElem v = some z) : ∃ s : Sec, v = vS s ∧ z = (.lit (.string s.1), []) := by
 unfold secElem at h
 split at h
 ·rename_i h1
  injection h with h
  exact ⟨h1.choose, h1.choose_spec, h.symm⟩
 ·cases h
theorem secElem_lit {v : Value} {s : Sec} {ps : List MemPlace} (h : secElem v = some (.lit (.string s.1), ps)) : v = vS s := by
 obtain ⟨s', rfl, e⟩ := secElem_inv h
 injection e with e _
 injection e with e
 injection e with e
 rw [Subtype.ext e]
def cAt (C : List (Option Sec)) (z : Int) : Option Sec := if 0 ≤ z then (C[z.toNat]?).getD none else none
def cnt (C : List (Option Sec)) : Nat := C.countP Option.isSome
theorem cnt_le (C : List (Option Sec)) : cnt C ≤ C.length := List.countP_le_length
theorem cAt_nat (C : List (Option Sec)) {i : Nat} (h : i < C.length) : cAt C (i : Int) = C[i] := by
 rw [cAt, if_pos (by omega)]
 simp [h]
theorem cAt_set (C : List (Option Sec)) {i : Nat} (h : i < C.length) (s : Option Sec) (z : Int) : cAt (C.set i s) z = if z = i then s else cAt C z := by
 unfold cAt
 by_cases hz : 0 ≤ z
 ·rw [if_pos hz, if_pos hz, List.getElem?_set]
  by_cases e : z = i
  ·rw [if_pos e, if_pos (by omega), if_pos h]; rfl
  ·rw [if_neg e, if_neg (by omega)]
 ·rw [if_neg hz, if_neg hz, if_neg (by omega)]
theorem cAt_none (n : Nat) (z : Int) : cAt (List.replicate n none) z = none := by
 unfold cAt
 split
 ·rw [List.getElem?_replicate]
  split <;> rfl
 ·rfl
theorem cnt_set : ∀ (C : List (Option Sec)) {i : Nat} (h : i < C.length) (s : Sec), cnt (C.set i (some s)) = if (C[i]).isSome then cnt C else cnt C + 1
 | [], _, h, _ => absurd h (Nat.not_lt_zero _)
 | x :: C, 0, _, s => by cases x <;> simp [cnt, List.countP_cons]
 | x :: C, i + 1, h, s => by
  have ih := cnt_set C (i := i) (by simpa using h) s
  unfold cnt at ih ⊢
  rw [List.set_cons_succ, List.countP_cons, ih, List.countP_cons, List.getElem_cons_succ]
  split <;> omega
def MapS (w : World) (b : Nat) (C : List (Option Sec)) : Prop :=
 ∃ D, w.ownsMap (H := Unit) Tryz.prog 3 secElem b (cnt C) D ∧ Maps.size D = cnt C ∧ ∀ z, (Lit.int .i64 z).wf = true → Maps.has D (.int .i64 z) = (cAt C z).isSome ∧ ∀ s, cAt C z = some s → ∀ d, D.atKey (.int .i64 z) d = .lit (.string s.1)
theorem Tryz.keyI : Go.Maps.Keyed Tryz.prog 3 := Go.Maps.int_keyed Tryz.underlying3
section
variable {w w' : World} {b lo hi : Nat} {C : List (Option Sec)} {row : Option Nat}
theorem MapS.lt (h : MapS w b C) : b < w.heap.size := by obtain ⟨D, h, -⟩ := h; exact h.lt
theorem MapS.keep (h : MapS w b C) (hb : w'.heap[b]? = w.heap[b]?) : MapS w' b C := by
 obtain ⟨D, ⟨es, clock, h1, h2⟩, h3⟩ := h
 exact ⟨D, ⟨es, clock, hb.trans h1, h2⟩, h3⟩
theorem MapS.u (h : MapS w b C) (hb : Below w.heap.size w w') : MapS w' b C := h.keep (hb.block b h.lt)
theorem MapS.d (h : MapS w b C) : MapS w.drew b C := h
theorem MapS.k (h : MapS w b C) (hg : w.grownBy w' row) (ha : Ap row b (b + 1)) : MapS w' b C := h.keep (hg.block b h.lt (fun e => by have := ha b e.symm; omega))
theorem MapS.y {e : TypeId} (h : MapS w b C) (hg : Grew w w' e row) (_ : 0 = 0) : MapS w' b C := by
 refine h.keep (hg.g.block b h.lt (fun e' => ?_))
 obtain ⟨cs, f, h3⟩ := hg.ty b e'.symm
 obtain ⟨_, ⟨_, _, h4, _⟩, _⟩ := h
 rw [h4] at h3
 cases h3
theorem MapS.c (h : MapS w b C) (hc : Chg lo hi w w') (ha : b < lo ∨ hi ≤ b) : MapS w' b C := h.keep (hc.block b h.lt ha)
end
def z256 : Sec := ⟨List.replicate 256 0, List.length_replicate⟩
theorem B8_rep (n : Nat) : B8 (List.replicate n 0) = List.replicate n (.int .u8 0) := by
 unfold B8; rw [List.map_replicate]; rfl
theorem Tryz.zeroSec (w : World) : (zeroValue 95).run Tryz.prog w = .ok (vS z256) w := by
 have h : (zeroValue 95).run Tryz.prog w = .ok (.agg (List.replicate 256 (.int .u8 0)).toArray) w := by kernel_rfl
 rw [h]
 show _ = Result.ok (Value.agg (B8 (List.replicate 256 0)).toArray) w
 rw [B8_rep]
section
variable {P : Program} {fn : Func} {F : Ending → World → Prop} {N : Nat} {ks : List K} {ops : Array Oper} {tg : Tags} {l : List Oper} {fr : Fr} {w : World} {ty t t' e : TypeId} {pos : String} {aft : Array Edge} {gd : Option (Nat × Bool)} {d b n : Nat} {x y z : Operand} {C : List (Option Sec)} {q : Int} {s : Sec}
theorem o_lookS2 {r : Option Sec} (hu : Tryz.prog.underlying t = some (.map 3 95)) (hx : fr.ev x = some (.map (some b))) (hy : fr.ev y = some (.int .i64 q)) (hS : MapS w b C) (hr : cAt C q = r) (hq : (Lit.int .i64 q).wf = true) :
  OpV Tryz.prog N fr w (.lookup t x y true) ty (.tuple #[vS (r.getD z256), .bool r.isSome]) w := fun a ha o ho' _ => by
 subst hr
 obtain ⟨D, ho, hs, hh⟩ := hS
 obtain ⟨h1, h2⟩ := hh q hq
 obtain ⟨v, ps, hrun, hv⟩ := ho.look_ok Tryz.keyI hu (Tryz.zeroSec w) (secElem_mk z256) (Go.Maps.keyOf_int_mk Tryz.underlying3 hq)
 have hv2 : v = vS ((cAt C q).getD z256) := by
  cases hc : cAt C q with
  | none =>
   rw [hc] at h1
   rw [Maps.atKey_of_not_has h1] at hv
   exact secElem_lit hv
  | some s =>
   rw [h2 s hc] at hv
   exact secElem_lit hv
 rw [h1] at hrun
 simp [execOp, ho', ha.ev hx, ha.ev hy, hrun, hv2]
theorem o_lookS1 {r : Option Sec} (hu : Tryz.prog.underlying t = some (.map 3 95)) (hx : fr.ev x = some (.map (some b))) (hy : fr.ev y = some (.int .i64 q)) (hS : MapS w b C) (hr : cAt C q = r) (hq : (Lit.int .i64 q).wf = true) :
  OpV Tryz.prog N fr w (.lookup t x y false) ty (vS (r.getD z256)) w := fun a ha o ho' _ => by
 subst hr
 obtain ⟨D, ho, hs, hh⟩ := hS
 obtain ⟨h1, h2⟩ := hh q hq
 obtain ⟨v, ps, hrun, hv⟩ := ho.lookup Tryz.keyI hu (Tryz.zeroSec w) (secElem_mk z256) (Go.Maps.keyOf_int_mk Tryz.underlying3 hq)
 have hv2 : v = vS ((cAt C q).getD z256) := by
  cases hc : cAt C q with
  | none =>
   rw [hc] at h1
   rw [Maps.atKey_of_not_has h1] at hv
   exact secElem_lit hv
  | some s =>
   rw [h2 s hc] at hv
   exact secElem_lit hv
 simp [execOp, ho', ha.ev hx, ha.ev hy, hrun, hv2]
theorem wl_putS {i : Nat} (hu : Tryz.prog.underlying t = some (.map 3 95)) (hx : fr.ev x = some (.map (some b))) (hy : fr.ev y = some (.int .i64 q)) (hS : MapS w b C) (hz : fr.ev z = some (vS s)) (hq : q = (i : Int)) (hi : i < C.length) (hL : C.length ≤ 1000000)
  (hk : ∀ w', MapS w' b (C.set i (some s)) → GrewM w w' b → w'.heap.size = w.heap.size → WL Tryz.prog fn F N ks ops tg.tail l fr w')
  (ht : tg.loud = true := by rfl) (hg : onG ops fr gd = true := by rfl) (hq : tg.calm = false ∨ tg.rw.may (some b) := by exact .inl rfl) : WL Tryz.prog fn F N ks ops tg (⟨none, .mapUpdate t x y z, ty, pos, aft, gd⟩ :: l) fr w := by
 rename_i hq0
 subst hq0
 have hwf : (Lit.int .i64 (i : Int)).wf = true := by
  simp only [Lit.wf, Bool.and_eq_true, decide_eq_true_eq]
  exact ⟨by show (-9223372036854775808 : Int) ≤ _; omega, by show _ ≤ (9223372036854775807 : Int); omega⟩
 have hcl := cnt_le C
 obtain ⟨D, ho, hs, hh⟩ := hS
 have hkl := Go.Maps.keyOf_int_mk Tryz.underlying3 hwf
 obtain ⟨w', hrun, ho', hT⟩ := ho.store Tryz.keyI hu (by simp only [maxLen]; omega) hkl (secElem_mk s)
 have hgr := hT.grown
 have hz' : w'.heap.size = w.heap.size := by obtain ⟨_, _, _, _, _, rfl⟩ := hT; simp [Go.ChangeMaps.setBlock]
 have hsz : Maps.size (D.put (.int .i64 (i : Int)) (.lit (.string s.1))) = cnt (C.set i (some s)) := by
  rw [Maps.size_put (ho.tidy Tryz.keyI), (hh _ hwf).1, cAt_nat C hi, cnt_set C hi, hs]
 refine wl_u (w' := w') (fun a ha o hop => ?_) (hk w' ⟨_, ?_, hsz, fun u hu' => ?_⟩ ⟨hgr, by obtain ⟨_, _, h4, _⟩ := ho; exact ⟨_, _, h4⟩⟩ hz') ht hg (hq.imp id (Rw.of_may hgr))
 ·simp [execOp, hop, ha.ev hx, ha.ev hy, ha.ev hz, hrun]
 ·rw [← hsz]
  obtain ⟨es, clock, g1, g2, g3, g4⟩ := ho'
  exact ⟨es, clock, g1, g2, by rw [g4]; simp [Maps.size, length_sorted], g4⟩
 ·rw [cAt_set C hi]
  by_cases hd' : u = i
  ·subst hd'
   rw [if_pos rfl]
   refine ⟨Maps.has_put_same ho.isMap (Tryz.keyI.key hkl) _, fun s' e d => ?_⟩
   injection e with e
   rw [← e]
   exact Maps.atKey_put_same ho.isMap (Tryz.keyI.key hkl) _ _
  ·rw [if_neg hd']
   have hne : Lit.int .i64 u ≠ .int .i64 (i : Int) := fun h => hd' (by injection h)
   refine ⟨by rw [Maps.has_put_other hne]; exact (hh u hu').1, fun s' e d => ?_⟩
   rw [Maps.atKey_put_other hne]
   exact (hh u hu').2 s' e d
theorem MapS.made (w : World) (n : Nat) : MapS (w.alloc (.map #[] 0)) w.heap.size (List.replicate n none) := by
 have h0 : cnt (List.replicate n none) = 0 := by simp [cnt, List.countP_eq_zero]
 refine ⟨.map [], ?_, by rw [h0]; rfl, fun z _ => ?_⟩
 ·rw [h0]; exact World.ownsMap_made w _ _ _
 ·rw [cAt_none]; exact ⟨rfl, fun s e => by cases e⟩
theorem wl_makeS (n : Nat) (hu : Tryz.prog.underlying t = some (.map 3 95)) (hk : ∀ b w', MapS w' b (List.replicate n none) → Below w.heap.size w w' → w.heap.size ≤ b → b < w'.heap.size → WL Tryz.prog fn F N ks ops tg.tail l ((d, .map (some b)) :: fr) w')
  (ht : tg.loud = true := by rfl) (hg : onG ops fr gd = true := by rfl) (hd : Nat.blt d N = true := by rfl) : WL Tryz.prog fn F N ks ops tg (⟨some d, .makeMap t none, ty, pos, aft, gd⟩ :: l) fr w :=
 wl_v (w' := w.alloc (.map #[] 0)) (fun a _ o ho _ => by simp [execOp, ho, run_makeMap]) (hk _ _ (MapS.made w n) (below_alloc w _) (Nat.le_refl _) (by simp)) ht hg hd (.inr (grown_of_below (below_alloc w _) _))
theorem wl_clearM (hu : Tryz.prog.underlying t = some (.map 3 95)) (hx : fr.ev x = some (.map (some b))) (hS : MapS w b C) 
  (hk : ∀ w', MapS w' b (List.replicate C.length none) → GrewM w w' b → w'.heap.size = w.heap.size → WL Tryz.prog fn F N ks ops tg.tail l fr w')
  (ht : tg.loud = true := by rfl) (hg : onG ops fr gd = true := by rfl) (hq : tg.calm = false ∨ some b = tg.row := by exact .inl rfl) : WL Tryz.prog fn F N ks ops tg (⟨none, .call { callee := .builtin .clear, args := #[x], argTypes := #[t] }, ty, pos, aft, gd⟩ :: l) fr w := by
 obtain ⟨D, ⟨es, clock, hb, Ft, _, _⟩, _⟩ := hS
 obtain ⟨w', hw'⟩ : ∃ w', Go.ChangeMaps.setBlock w b (.map #[] clock) = w' := ⟨_, rfl⟩
 have hT : w.mapTurned w' b := ⟨es, clock, #[], clock, hb, hw'.symm⟩
 have hgr := hT.grown
 have hz' : w'.heap.size = w.heap.size := by rw [← hw']; simp [Go.ChangeMaps.setBlock]
 have h0 : cnt (List.replicate C.length none) = 0 := by simp [cnt, List.countP_eq_zero]
 have hb' : w'.heap[b]? = some (.map #[] clock) := by rw [← hw']; exact Go.ChangeMaps.heap_setBlock_same hb _
 have hrun : (Builtin.clear_ #[t] ty #[.map (some b)]).run Tryz.prog w = .ok (.tuple #[]) w' := by
  rw [← hw']
  simp [Builtin.clear_, run_underlying hu, MapKept.run_getObj_map hb, MapKept.run_setObj_map _ hb, Result.andThen, Go.ChangeMaps.setBlock]
 refine wl_v0 (o_builtin (v := .tuple #[]) (xs := [x]) (vs := [.map (some b)]) (by simp [Fr.evs, hx]) (by simp [builtin, hrun]) (by simp)) (hk w' ⟨.map [], ?_, by rw [h0]; rfl, fun z _ => ?_⟩ ⟨hgr, ⟨_, _, hb⟩⟩ hz') ht hg (hq.imp id fun (e : some b = tg.row) => e ▸ hgr)
 ·rw [h0]; exact ⟨#[], clock, hb', ⟨by simp, MapKept.stamped_empty clock, by simp⟩, Nat.le_refl _, rfl⟩
 ·rw [cAt_none]; exact ⟨rfl, fun s e => by cases e⟩
end
end Go.Proofs.YtnnhenafhalobaaGreat
namespace Go.Proofs.YtnnhenafhalobaaGreat
set_option maxRecDepth 100000
open Go.RowKit
def cur : List Sec → List (Option Sec) → List Sec
 | s :: S, c :: C => c.getD s :: cur S C
 | S, _ => S
theorem cur_len : ∀ (S : List Sec) (C : List (Option Sec)), (cur S C).length = S.length
 | [], _ => by simp [cur]
 | s :: S, [] => by simp [cur]
 | s :: S, c :: C => by simp [cur, cur_len S C]
theorem cur_get : ∀ (S : List Sec) (C : List (Option Sec)) (i : Nat) (h : i < S.length) (h2 : i < C.length), (cur S C)[i]'(by rw [cur_len]; exact h) = (C[i]).getD S[i]
 | s :: S, c :: C, 0, _, _ => rfl
 | s :: S, c :: C, i + 1, h, h2 => by
  have := cur_get S C i (by simpa using h) (by simpa using h2)
  simpa [cur] using this
theorem cur_none : ∀ (S : List Sec) (n : Nat), cur S (List.replicate n none) = S
 | [], _ => by simp [cur]
 | s :: S, 0 => by simp [cur]
 | s :: S, n + 1 => by rw [List.replicate_succ, cur, cur_none S n]; rfl
theorem cur_set : ∀ (S : List Sec) (C : List (Option Sec)) (i : Nat) (s : Sec), C.length = S.length → cur S (C.set i (some s)) = (cur S C).set i s
 | [], C, i, s, h => by
  obtain rfl : C = [] := List.length_eq_zero_iff.1 h
  simp [cur]
 | x :: S, [], i, s, h => by cases h
 | x :: S, c :: C, 0, s, h => by simp [cur]
 | x :: S, c :: C, i + 1, s, h => by simp [cur, cur_set S C i s (by simpa using h)]
def ixs : Nat → List (Option Sec) → List Nat
 | _, [] => []
 | k, none :: C => ixs (k + 1) C
 | k, some _ :: C => k :: ixs (k + 1) C
def cix (C : List (Option Sec)) : List Nat := ixs 0 C
theorem ixs_len : ∀ (k : Nat) (C : List (Option Sec)), (ixs k C).length = cnt C
 | _, [] => rfl
 | k, none :: C => by rw [ixs, ixs_len (k + 1) C]; simp [cnt]
 | k, some _ :: C => by rw [ixs, List.length_cons, ixs_len (k + 1) C]; simp [cnt]
theorem cix_len (C : List (Option Sec)) : (cix C).length = cnt C := ixs_len 0 C
theorem ixs_mem : ∀ (k : Nat) (C : List (Option Sec)) (j : Nat), j ∈ ixs k C ↔ k ≤ j ∧ ∃ h : j - k < C.length, (C[j - k]).isSome
 | k, [], j => by simp [ixs]
 | k, c :: C, j => by
  have ih := ixs_mem (k + 1) C j
  have key : (k + 1 ≤ j ∧ ∃ h : j - (k + 1) < C.length, (C[j - (k + 1)]).isSome) ↔ (k + 1 ≤ j ∧ ∃ h : j - k < (c :: C).length, ((c :: C)[j - k]).isSome) := by
   constructor
   ·rintro ⟨h1, h2, h3⟩
    refine ⟨h1, by simp; omega, ?_⟩
    rw [List.getElem_cons, dif_neg (by omega)]
    simpa [show j - k - 1 = j - (k + 1) by omega] using h3
   ·rintro ⟨h1, h2, h3⟩
    refine ⟨h1, by simp at h2; omega, ?_⟩
    rw [List.getElem_cons, dif_neg (by omega)] at h3
    simpa [show j - k - 1 = j - (k + 1) by omega] using h3
  cases c with
  | none =>
   rw [ixs, ih, key]
   constructor
   ·rintro ⟨h1, h2⟩; exact ⟨by omega, h2⟩
   ·rintro ⟨h1, h2, h3⟩
    refine ⟨?_, h2, h3⟩
    rcases Nat.lt_or_ge k j with h | h
    ·omega
    ·obtain rfl : j = k := by omega
     simp at h3
  | some s =>
   rw [ixs, List.mem_cons, ih, key]
   constructor
   ·rintro (rfl | ⟨h1, h2⟩)
    ·exact ⟨Nat.le_refl _, by simp, by simp⟩
    ·exact ⟨by omega, h2⟩
   ·rintro ⟨h1, h2⟩
    rcases Nat.lt_or_ge k j with h | h
    ·exact .inr ⟨by omega, h2⟩
    ·exact .inl (by omega)
theorem cix_mem (C : List (Option Sec)) (j : Nat) : j ∈ cix C ↔ ∃ h : j < C.length, (C[j]).isSome := by
 rw [cix, ixs_mem]; simp
theorem ixs_sorted : ∀ (k : Nat) (C : List (Option Sec)), (ixs k C).Pairwise (· < ·)
 | _, [] => List.Pairwise.nil
 | k, none :: C => ixs_sorted (k + 1) C
 | k, some _ :: C => List.pairwise_cons.2 ⟨fun j hj => by have := ((ixs_mem _ _ _).1 hj).1; omega, ixs_sorted (k + 1) C⟩
theorem cix_lt (C : List (Option Sec)) {j : Nat} (h : j < (cix C).length) : (cix C)[j] < C.length := by
 obtain ⟨h1, _⟩ := (cix_mem C _).1 (List.getElem_mem h); exact h1
def crash : List Sec → List (Option Sec) → List Bool → List Sec
 | s :: S, none :: C, kp => s :: crash S C kp
 | s :: S, some c :: C, kp => (if kp.headD false then c else s) :: crash S C kp.tail
 | S, _, _ => S
theorem crash_len : ∀ (S : List Sec) (C : List (Option Sec)) (kp : List Bool), (crash S C kp).length = S.length
 | [], _, _ => by simp [crash]
 | s :: S, [], _ => by simp [crash]
 | s :: S, none :: C, kp => by simp [crash, crash_len S C kp]
 | s :: S, some c :: C, kp => by simp [crash, crash_len S C kp.tail]
theorem crash_nil : ∀ (S : List Sec) (C : List (Option Sec)), crash S C [] = S
 | [], _ => by simp [crash]
 | s :: S, [] => by simp [crash]
 | s :: S, none :: C => by simp [crash, crash_nil S C]
 | s :: S, some c :: C => by simp [crash, crash_nil S C]
theorem crash_all : ∀ (S : List Sec) (C : List (Option Sec)) (n : Nat), cnt C ≤ n → crash S C (List.replicate n true) = cur S C
 | [], C, _, _ => by cases C <;> simp [crash, cur]
 | s :: S, [], _, _ => by simp [crash, cur]
 | s :: S, none :: C, n, h => by
  rw [crash, cur, crash_all S C n (by simpa [cnt] using h)]; rfl
 | s :: S, some c :: C, n, h => by
  have h1 : cnt (some c :: C) = cnt C + 1 := by simp [cnt]
  obtain ⟨m, rfl⟩ : ∃ m, n = m + 1 := ⟨n - 1, by omega⟩
  rw [crash, cur, List.replicate_succ, List.tail_cons, crash_all S C m (by omega)]; rfl
theorem crash_more : ∀ (k : Nat) (S : List Sec) (C : List (Option Sec)) (kp : List Bool) (b : Bool), C.length = S.length → (h : kp.length < (ixs k C).length) →
  crash S C (kp ++ [b]) = if b then (crash S C kp).set ((ixs k C)[kp.length] - k) ((cAt C ((((ixs k C)[kp.length] - k : Nat)) : Int)).getD z256) else crash S C kp
 | k, [], C, kp, b, hl, h => by
  obtain rfl : C = [] := List.length_eq_zero_iff.1 hl
  simp [ixs] at h
 | k, s :: S, [], kp, b, hl, h => by cases hl
 | k, s :: S, none :: C, kp, b, hl, h => by
  have ih := crash_more (k + 1) S C kp b (by simpa using hl) (by simpa [ixs] using h)
  have hge : k + 1 ≤ (ixs (k + 1) C)[kp.length]'(by simpa [ixs] using h) := ((ixs_mem _ _ _).1 (List.getElem_mem _)).1
  obtain ⟨j, hj⟩ : ∃ j, (ixs (k + 1) C)[kp.length]'(by simpa [ixs] using h) = k + 1 + j := ⟨_, (Nat.add_sub_of_le hge).symm⟩
  have hj2 : (ixs k (none :: C))[kp.length] = k + 1 + j := hj
  rw [hj] at ih
  rw [hj2]
  simp only [crash, ih]
  have e1 : k + 1 + j - (k + 1) = j := by omega
  have e2 : k + 1 + j - k = j + 1 := by omega
  have e3 : cAt (none :: C) ((j + 1 : Nat) : Int) = cAt C (j : Int) := by
   rw [cAt, if_pos (by omega), cAt, if_pos (by omega)]
   have : ((j + 1 : Nat) : Int).toNat = (j : Int).toNat + 1 := by omega
   rw [this, List.getElem?_cons_succ]
  rw [e1, e2, e3]
  cases b <;> simp
 | k, s :: S, some c :: C, kp, b, hl, h => by
  cases kp with
  | nil =>
   have e1 : (ixs k (some c :: C))[([] : List Bool).length] - k = 0 := by simp [ixs]
   rw [e1]
   have e2 : cAt (some c :: C) ((0 : Nat) : Int) = some c := by simp [cAt]
   rw [e2]
   simp only [List.nil_append, crash, List.headD_cons, List.tail_cons, List.headD_nil, List.tail_nil]
   cases b <;> simp [crash_nil]
  | cons x kp =>
   have ih := crash_more (k + 1) S C kp b (by simpa using hl) (by simpa [ixs] using h)
   have hk : kp.length < (ixs (k + 1) C).length := by simpa [ixs] using h
   have hge : k + 1 ≤ (ixs (k + 1) C)[kp.length] := ((ixs_mem _ _ _).1 (List.getElem_mem _)).1
   obtain ⟨j, hj⟩ : ∃ j, (ixs (k + 1) C)[kp.length] = k + 1 + j := ⟨_, (Nat.add_sub_of_le hge).symm⟩
   have hj2 : (ixs k (some c :: C))[(x :: kp).length] = k + 1 + j := hj
   rw [hj] at ih
   rw [hj2]
   have e1 : k + 1 + j - (k + 1) = j := by omega
   have e2 : k + 1 + j - k = j + 1 := by omega
   have e3 : cAt (some c :: C) ((j + 1 : Nat) : Int) = cAt C (j : Int) := by
    rw [cAt, if_pos (by omega), cAt, if_pos (by omega)]
    have : ((j + 1 : Nat) : Int).toNat = (j : Int).toNat + 1 := by omega
    rw [this, List.getElem?_cons_succ]
   simp only [List.cons_append, crash, List.headD_cons, List.tail_cons, ih]
   rw [e1, e2, e3]
   cases b <;> simp <;> rfl
theorem crash_step {S : List Sec} {C : List (Option Sec)} {kp : List Bool} (b : Bool) (hl : C.length = S.length) (h : kp.length < (cix C).length) :
  crash S C (kp ++ [b]) = if b then (crash S C kp).set (cix C)[kp.length] ((cAt C (((cix C)[kp.length] : Nat) : Int)).getD z256) else crash S C kp := by
 exact crash_more 0 S C kp b hl h
theorem crash_at {S : List Sec} {C : List (Option Sec)} {kp : List Bool} {j : Nat} (b : Bool) (hl : C.length = S.length) (hk : kp.length = j) (h : j < (cix C).length) :
  crash S C (kp ++ [b]) = if b then (crash S C kp).set (cix C)[j] ((cAt C (((cix C)[j] : Nat) : Int)).getD z256) else crash S C kp := by
 subst hk
 exact crash_step b hl h
theorem crash_true {S : List Sec} {C : List (Option Sec)} {j : Nat} (hl : C.length = S.length) (h : j < (cix C).length) :
  crash S C (List.replicate (j + 1) true) = (crash S C (List.replicate j true)).set (cix C)[j] ((cAt C (((cix C)[j] : Nat) : Int)).getD z256) := by
 rw [List.replicate_succ']
 have := crash_at (kp := List.replicate j true) true hl List.length_replicate h
 rwa [if_pos rfl] at this
theorem crash_keep {S : List Sec} {C : List (Option Sec)} {kp : List Bool} {j : Nat} (hl : C.length = S.length) (h : j < (cix C).length) (hk : j < kp.length) :
  crash S C (kp.take (j + 1)) = if kp[j] then (crash S C (kp.take j)).set (cix C)[j] ((cAt C (((cix C)[j] : Nat) : Int)).getD z256) else crash S C (kp.take j) := by
 rw [List.take_succ_eq_append_getElem hk]
 exact crash_at _ hl (by rw [List.length_take]; omega) h
theorem crash_take : ∀ (S : List Sec) (C : List (Option Sec)) (kp : List Bool) (n : Nat), cnt C ≤ n → crash S C (kp.take n) = crash S C kp
 | [], _, _, _, _ => by simp [crash]
 | s :: S, [], _, _, _ => by simp [crash]
 | s :: S, none :: C, kp, n, h => by simp [crash, crash_take S C kp n (by simpa [cnt] using h)]
 | s :: S, some c :: C, kp, n, h => by
  have h1 : cnt (some c :: C) = cnt C + 1 := by simp [cnt]
  obtain ⟨m, rfl⟩ : ∃ m, n = m + 1 := ⟨n - 1, by omega⟩
  cases kp with
  | nil => simp [crash]
  | cons x kp => simp [crash, crash_take S C kp m (by omega)]
theorem crash_snoc : ∀ (S : List Sec) (C : List (Option Sec)) (s : Sec) (c : Option Sec) (kp : List Bool), C.length = S.length →
  crash (S ++ [s]) (C ++ [c]) kp = crash S C kp ++ [match c with | none => s | some x => if (kp.drop (cnt C)).headD false then x else s]
 | [], C, s, c, kp, hl => by
  obtain rfl : C = [] := List.length_eq_zero_iff.1 hl
  cases c <;> simp [crash, cnt]
 | x :: S, [], s, c, kp, hl => by cases hl
 | x :: S, none :: C, s, c, kp, hl => by
  have h1 : cnt (none :: C) = cnt C := by simp [cnt]
  simp [crash, crash_snoc S C s c kp (by simpa using hl), h1]
 | x :: S, some y :: C, s, c, kp, hl => by
  have h1 : cnt (some y :: C) = cnt C + 1 := by simp [cnt]
  simp only [List.cons_append, crash, crash_snoc S C s c kp.tail (by simpa using hl), h1]
  have e : kp.tail.drop (cnt C) = kp.drop (cnt C + 1) := by rw [List.drop_tail]
  rw [e]
end Go.Proofs.YtnnhenafhalobaaGreat
namespace Go.Proofs.YtnnhenafhalobaaGreat
set_option maxRecDepth 100000
open Go.RowKit
theorem getElem_spl {L vs : List Value} {k i : Nat} (h : k + vs.length ≤ L.length) : (spl L k vs)[i]? = if k ≤ i ∧ i < k + vs.length then vs[i - k]? else L[i]? := by
 unfold spl
 have hl : (L.take k).length = k := by rw [List.length_take]; omega
 rw [List.append_assoc]
 rcases Nat.lt_or_ge i k with h1 | h1
 ·rw [if_neg (by omega), List.getElem?_append_left (by omega), List.getElem?_take_of_lt h1]
 ·rw [List.getElem?_append_right (by omega), hl]
  rcases Nat.lt_or_ge i (k + vs.length) with h2 | h2
  ·rw [if_pos ⟨h1, h2⟩, List.getElem?_append_left (by omega)]
  ·rw [if_neg (by omega), List.getElem?_append_right (by omega), List.getElem?_drop]
   congr 1; omega
theorem part_spl {xs vs : List Value} {sz n i j : Nat} (hx : xs.length = n * sz) (hv : vs.length = sz) (hj : j < n) (hi : i < n) : part (spl xs (j * sz) vs) sz i = if i = j then vs else part xs sz i := by
 have hj2 : (j + 1) * sz ≤ n * sz := Nat.mul_le_mul_right _ hj
 have hi2 : (i + 1) * sz ≤ n * sz := Nat.mul_le_mul_right _ hi
 rw [Nat.add_mul, Nat.one_mul] at hj2 hi2
 have hle : j * sz + vs.length ≤ xs.length := by rw [hv, hx]; exact hj2
 apply List.ext_getElem?
 intro q
 unfold part
 rw [List.getElem?_take, List.getElem?_drop, getElem_spl hle]
 by_cases hq : q < sz
 ·rw [if_pos hq]
  by_cases e : i = j
  ·subst e
   rw [if_pos ⟨by omega, by omega⟩, if_pos rfl]
   congr 1; omega
  ·rw [if_neg e, List.getElem?_take_of_lt hq, List.getElem?_drop, if_neg]
   rintro ⟨h1, h2⟩
   rcases Nat.lt_or_ge i j with h3 | h3
   ·have : (i + 1) * sz ≤ j * sz := Nat.mul_le_mul_right _ h3
    rw [Nat.add_mul, Nat.one_mul] at this; omega
   ·have : (j + 1) * sz ≤ i * sz := Nat.mul_le_mul_right _ (by omega)
    rw [Nat.add_mul, Nat.one_mul] at this; omega
 ·rw [if_neg hq]
  split
  ·rw [List.getElem?_eq_none (by omega)]
  ·rw [List.getElem?_eq_none (by rw [List.length_take]; omega)]
section
variable {P : Program} {w : World} {lo hi e sz n c j : Nat} {A : Option Addr} {xs vs : List Value}
theorem RowH.blk_ (h : RowH w lo hi e sz A n c xs) (hn : 0 < n) : ∃ g cur, A = some ⟨g, 0, none⟩ ∧ lo ≤ g ∧ g < hi ∧ Blk w g e cur ∧ n ≤ c ∧ cur.length = c * sz ∧ cur.take (n * sz) = xs := by
 rcases h.o.2 with ⟨_, h0⟩ | ⟨g, cap, cur, hv, h1, h2, h3, h4, h5, h6⟩
 ·omega
 ·injection hv with e1 _ e3
  subst e1; subst e3
  exact ⟨g, cur.toList, rfl, h1, h.hi g rfl, by unfold Blk; rw [Array.toArray_toList]; exact h2, h3, by rw [Array.length_toList, h5], h6⟩
theorem RowH.put (h : RowH w lo hi e sz A n c xs) (hj : j < n) (hv : vs.length = sz) (h1 : ∀ u ∈ vs, u.oneCell' = true) (h0 : 0 < sz) :
  ∃ g w', A = some ⟨g, 0, none⟩ ∧ (storeCells ⟨g, j * sz, none⟩ vs 0).run P w = .ok () w' ∧ RowH w' lo hi e sz A n c (spl xs (j * sz) vs) ∧ Grew w w' e (blk A) ∧ w'.heap.size = w.heap.size := by
 have hT := h.ty
 have hrd := h.rd.1
 have hcap := h.cap
 have ho := h.o
 obtain ⟨g, cur, rfl, g1, g2, hB, g3, g4, g5⟩ := h.blk_ (by omega)
 have hj2 : (j + 1) * sz ≤ n * sz := Nat.mul_le_mul_right _ hj
 have hn2 : n * sz ≤ c * sz := Nat.mul_le_mul_right _ g3
 rw [Nat.add_mul, Nat.one_mul] at hj2
 obtain ⟨w', hr, hB', hgr, hz⟩ := run_storeCells_blk (P := P) (o := j * sz) vs 0 cur w hB h1 (by omega)
 rw [Nat.add_zero] at hB'
 refine ⟨g, w', rfl, hr, ⟨⟨?_, .inr ⟨g, c, (spl cur (j * sz) vs).toArray, rfl, g1, hB', g3, ?_, ?_, ?_⟩⟩, h.hi⟩, ⟨hgr, hT⟩, hz⟩
 ·rw [spl_length (by omega), hrd]
 ·rcases ho.2 with ⟨hv', h0'⟩ | ⟨_, cap, _, hv', _, _, _, h4, _⟩
  ·omega
  ·injection hv' with _ _ e3; rw [e3]; exact h4
 ·rw [List.size_toArray, spl_length (by omega), g4]
 ·show (spl cur (j * sz) vs).take (n * sz) = _
  apply List.ext_getElem?
  intro q
  rw [List.getElem?_take, getElem_spl (by omega), getElem_spl (by rw [hrd]; omega), ← g5, List.getElem?_take]
  by_cases hq : q < n * sz
  ·rw [if_pos hq, if_pos hq]
  ·rw [if_neg hq, if_neg hq, if_neg (by omega)]
end
section
variable {α : Type} {X : GoT α} {e e' : TypeId} {w : World} {lo hi c j : Nat} {A : Option Addr} {L : List α} {vs : List Value} {P : Program} {a : α}
theorem OwnS.put (h : OwnS X e w lo hi A c L) (hj : j < L.length) (hX : X.T w vs a) (h1 : ∀ u ∈ vs, u.oneCell' = true) (h0 : 0 < X.sz) (hne : e ∉ X.tys) :
  ∃ g w', A = some ⟨g, 0, none⟩ ∧ (storeCells ⟨g, j * X.sz, none⟩ vs 0).run P w = .ok () w' ∧ OwnS X e w' lo hi A c (L.set j a) ∧ Grew w w' e (blk A) ∧ w'.heap.size = w.heap.size := by
 obtain ⟨xs, h2, h3⟩ := h
 have hv := X.len (X.tr hX)
 obtain ⟨g, w', e1, e2, e3, e4, e5⟩ := h2.put (P := P) hj hv h1 h0
 refine ⟨g, w', e1, e2, ⟨_, by rw [List.length_set]; exact e3, fun i hi => ?_⟩, e4, e5⟩
 rw [List.length_set] at hi
 rw [part_spl h2.rd.1 hv hj hi, List.getElem_set]
 split
 ·rw [if_pos (by omega)]; exact X.ty hX e4 hne
 ·rw [if_neg (by omega)]; exact X.ty (h3 i hi) e4 hne
end
section
variable {α : Type} {X : GoT α} {P : Program} {fn : Func} {F : Ending → World → Prop} {N : Nat} {ks : List K} {ops : Array Oper} {tg : Tags} {l : List Oper} {fr : Fr} {w : World} {ty t e : TypeId} {z : Value} {pos : String} {aft : Array Edge} {gd : Option (Nat × Bool)} {k1 k2 : IntKind} {d n m bytes c j lo hi : Nat} {x y : Operand} {A : Option Addr} {L : List α} {a : α} {vs : List Value}
theorem wl_stS (hs : ∀ w, (sizeOf t).run P w = .ok m w) (hx : fr.ev x = some (.pointer (some (adr A (j * m))))) (hy : fr.ev y = some (.agg vs.toArray)) (hm : m = X.sz) (hown : OwnS X e w lo hi A c L) (hj : j < L.length) (hX : X.T w vs a) (h1 : ∀ u ∈ vs, u.oneCell' = true) (h0 : 0 < X.sz) (hne : e ∉ X.tys)
  (hk : ∀ w', OwnS X e w' lo hi A c (L.set j a) → Grew w w' e (blk A) → Below lo w w' → w'.heap.size = w.heap.size → WL P fn F N ks ops tg.tail l fr w') (ht : tg.loud = true := by rfl) (hg : onG ops fr gd = true := by rfl) (hq : tg.calm = false ∨ tg.rw.may (blk A) := by exact .inl rfl) :
  WL P fn F N ks ops tg (⟨none, .store t x y, ty, pos, aft, gd⟩ :: l) fr w := by
 subst hm
 have hv := X.len (X.tr hX)
 have hown0 := hown
 obtain ⟨g, w', rfl, hr, e3, e4, e5⟩ := hown.put (P := P) hj hX h1 h0 hne
 have hbl : Below lo w w' := by
  obtain ⟨xs, g1, _⟩ := hown0
  have hlt := RowH.lt g1 g rfl
  exact e4.below (by omega) (fun k hk => by have hk' : g = k := (by simpa [blk] using hk); omega)
 have ead : adr (some (⟨g, 0, none⟩ : Addr)) (j * X.sz) = ⟨g, j * X.sz, none⟩ := by simp [adr, add_plain]
 rw [ead] at hx
 refine wl_u (w' := w') (fun a ha op hop => ?_) (hk w' e3 e4 hbl e5) ht hg (hq.imp id (Rw.of_may e4.g))
 have hcs : (Value.agg vs.toArray).cells = vs.toArray := rfl
 simp [execOp, hop, ha.ev hx, ha.ev hy, Instr.storeAt, Instr.sureAddr, storeVar, hcs, hs, hv, hr]
theorem madeCells_part (z : Value) (n : Nat) (h0 : 0 < z.cells.size) {i : Nat} (hi : i < n) : part (madeCells z.cells (n * z.cells.size)).toList z.cells.size i = z.cells.toList := by
 have hi2 : (i + 1) * z.cells.size ≤ n * z.cells.size := Nat.mul_le_mul_right _ hi
 rw [Nat.add_mul, Nat.one_mul] at hi2
 apply List.ext_getElem?
 intro q
 unfold part
 rw [List.getElem?_take]
 by_cases hq : q < z.cells.size
 ·rw [if_pos hq, List.getElem?_drop, Array.getElem?_toList, Array.getElem?_toList]
  have hlt : i * z.cells.size + q < (madeCells z.cells (n * z.cells.size)).size := by rw [size_madeCells]; omega
  rw [Array.getElem?_eq_getElem hlt, Array.getElem?_eq_getElem hq]
  simp only [madeCells, Array.getElem_map, Array.getElem_range]
  rw [Nat.mul_comm i, Nat.mul_add_mod, Nat.mod_eq_of_lt hq, getElem!_pos z.cells q hq]
 ·rw [if_neg hq, List.getElem?_eq_none (by rw [Array.length_toList]; omega)]
theorem wl_mkS {E C : Int} (T : RowT P t e z X.sz bytes) (hx : fr.ev x = some (.int k1 E)) (hy : fr.ev y = some (.int k2 C)) (hE : E = (n : Int)) (hC : C = (n : Int)) (hn : n ≤ 1000000000) (hb : n * bytes ≤ 140737488355328) (hX : ∀ w, X.T w z.cells.toList a)
  (hk : ∀ A w', OwnS X e w' w.heap.size w'.heap.size A n (List.replicate n a) → Below w.heap.size w w' → WL P fn F N ks ops tg.tail l ((d, .slice A n n) :: fr) w')
  (ht : tg.loud = true := by rfl) (hg : onG ops fr gd = true := by rfl) (hd : Nat.blt d N = true := by rfl) : WL P fn F N ks ops tg (⟨some d, .makeSlice t x y, ty, pos, aft, gd⟩ :: l) fr w := by
 subst hC; subst hE
 obtain ⟨i, hi, hz, hs, hb'⟩ := info_parts T.hi
 obtain ⟨w', hrun, r1, r2⟩ := run_make_full (P := P) w w.heap.size t e i _ X.sz T.ht hi hz hs k1 k2 n (by rw [hb', Nat.mul_comm]; omega) (by simp only [maxLen]; omega) (Nat.le_refl _)
 have hbl : Below w.heap.size w w' := (Below.refl _ _).grown r2 (Nat.le_refl _) (by simp)
 refine wl_v (fun a ha o ho _ => by simp [execOp, ho, ha.ev hx, ha.ev hy, hrun]) (hk (some ⟨w.heap.size, 0, none⟩) w' ⟨(madeCells z.cells (n * X.sz)).toList, ⟨?_, fun k hk => ?_⟩, fun i hi => ?_⟩ hbl) ht hg hd (.inr (grown_of_below hbl _))
 ·rw [List.length_replicate]; exact r1
 ·exact (World.ownsRow.lt r1 k (by rw [blk_own]; exact hk)).2
 ·rw [List.length_replicate] at hi
  have := madeCells_part z n (by rw [T.hz]; exact T.h0) hi
  rw [T.hz] at this
  rw [this, List.getElem_replicate]
  exact hX w'
end
end Go.Proofs.YtnnhenafhalobaaGreat
namespace Go.Proofs.YtnnhenafhalobaaGreat
set_option maxRecDepth 100000
open Go.RowKit
theorem Tryz.rowI : RowT Tryz.prog 69 3 (.int .i64 0) 1 8 := ⟨Tryz.underlying69, by kernel_rfl, rfl, by omega⟩

/-! Rows of numbers. -/
def OwnZ (w : World) (lo hi : Nat) (A : Option Addr) (c : Nat) (zs : List Int) : Prop := RowH w lo hi 3 1 A zs.length c (zs.map (Value.int .i64))
def RZ (w : World) (A : Option Addr) (zs : List Int) : Prop := Reads w 1 A zs.length (zs.map (Value.int .i64))
section
variable {w w' : World} {lo hi c n : Nat} {e' : TypeId} {A : Option Addr} {L : List Int} {row : Option Nat}
theorem RZ.u (h : RZ w A L) (hb : Below w.heap.size w w') : RZ w' A L := h.below hb
theorem RZ.to_Reads (h : RZ w A L) : Reads w 1 A L.length (L.map (Value.int .i64)) := h
theorem OwnZ.u (h : OwnZ w lo hi A c L) (hb : Below w.heap.size w w') : OwnZ w' lo hi A c L := RowH.u h hb
theorem OwnZ.d (h : OwnZ w lo hi A c L) : OwnZ w.drew lo hi A c L := RowH.d h
theorem OwnZ.k (h : OwnZ w lo hi A c L) (hg : w.grownBy w' row) (ha : Ap row lo hi) : OwnZ w' lo hi A c L := RowH.k h hg ha
theorem OwnZ.y (h : OwnZ w lo hi A c L) (hg : Grew w w' e' row) (hne : e' ≠ 3) : OwnZ w' lo hi A c L := RowH.y h hg hne
theorem OwnZ.ap (h : OwnZ w lo hi A c L) {lo' hi' : Nat} (hd : hi ≤ lo' ∨ hi' ≤ lo) : Ap (blk A) lo' hi' := RowH.ap h hd
theorem OwnZ.cap (h : OwnZ w lo hi A c L) : L.length ≤ c := RowH.cap h
theorem OwnZ.to_RZ (h : OwnZ w lo hi A c L) : RZ w A L := RowH.rd h
theorem OwnZ.to_Reads (h : OwnZ w lo hi A c L) : Reads w 1 A L.length (L.map (Value.int .i64)) := RowH.rd h
theorem OwnZ.nil_ : OwnZ w lo hi none 0 [] := RowH.nil _ _ _ _ _
theorem OwnZ.base {lo' hi' : Nat} (h : OwnZ w lo hi A c L) (h1 : lo' ≤ lo) (h2 : hi ≤ hi') : OwnZ w lo' hi' A c L := RowH.base h h1 h2
end
section
variable {fn : Func} {F : Ending → World → Prop} {N : Nat} {ks : List K} {ops : Array Oper} {tg : Tags} {l : List Oper} {fr : Fr} {w : World} {ty t t' : TypeId} {pos : String} {aft : Array Edge} {gd : Option (Nat × Bool)} {d g n c j q lo hi : Nat} {x y k : Operand} {A X : Option Addr}
theorem wl_appZ {L M : List Int} (hx : fr.ev x = some (.slice A n c)) (hown : OwnZ w lo hi A c L) (hn : n = L.length) (hy : fr.ev y = some (.slice X j q)) (hr : RZ w X M) (hj : j = M.length) (hlen : L.length + M.length ≤ 4000000) (hB : lo ≤ w.heap.size)
  (h : ∀ A' c' w', OwnZ w' lo w'.heap.size A' c' (L ++ M) → Grew w w' 3 (blk A) → Below lo w w' → (blk A' = blk A ∨ blk A' = some w.heap.size) → WL Tryz.prog fn F N ks ops tg.tail l ((d, .slice A' (L ++ M).length c') :: fr) w')
  (ht : tg.loud = true := by rfl) (hg : onG ops fr gd = true := by rfl) (hd : Nat.blt d N = true := by rfl) (hq : tg.calm = false ∨ blk A = none ∨ blk A = tg.row := by exact .inl rfl) :
  WL Tryz.prog fn F N ks ops tg (⟨some d, .call { callee := .builtin .append, args := #[x, y], argTypes := #[69, 69] }, ty, pos, aft, gd⟩ :: l) fr w := by
 subst hn; subst hj
 refine wl_appR Tryz.rowI hx hown hy hr (fun u hu => by obtain ⟨z, _, rfl⟩ := List.mem_map.1 hu; rfl) (by simp only [maxLen]; omega) (by omega) hB (fun A' c' w' h1 h2 h3 h4 => ?_) ht hg hd hq
 have := h A' c' w' (by unfold OwnZ; rw [List.map_append, List.length_append]; exact h1) h2 h3 h4
 rwa [List.length_append] at this
theorem wl_litZH {ps : Array (Nat × Operand)} {xs : List Operand} {vs : List Value} (zs : List Int) (hxs : ps.toList.map Prod.snd = xs) (hx : fr.evs xs = some vs) (hv : vs = zs.map (Value.int .i64)) (hn : zs.length = n) (hps : ps = ((List.range' 0 n).zip xs).toArray) (hm : Nat.ble (n * 1) 1000000 = true)
  (hk : ∀ A w', OwnZ w' w.heap.size w'.heap.size A n zs → Below w.heap.size w w' → WL Tryz.prog fn F N ks ops tg.tail l ((d, .slice A n n) :: fr) w')
  (ht : tg.loud = true := by rfl) (hg : onG ops fr gd = true := by rfl) (hd : Nat.blt d N = true := by rfl) : WL Tryz.prog fn F N ks ops tg (⟨some d, .buildSlice 69 n ps, ty, pos, aft, gd⟩ :: l) fr w := by
 refine wl_litR Tryz.rowI Tryz.sizeOf3 Tryz.zeroValue3 hxs hps hx (by rw [hv, List.length_map, hn]) (fun v hv' => ?_) hm (fun A w' h1 h2 => hk A w' ?_ h2) ht hg hd
 ·rw [hv] at hv'
  obtain ⟨z, _, rfl⟩ := List.mem_map.1 hv'
  rfl
 ·have e : (zs.map (Value.int .i64)).flatMap (fun v => v.cells.toList) = zs.map (Value.int .i64) := by
   clear h1 hk hm hx hv hn hps hxs
   induction zs with
   | nil => rfl
   | cons d L ih => rw [List.map_cons, List.flatMap_cons, ih]; rfl
  rw [hv, e] at h1
  subst hn
  exact h1
end

section
variable {fn : Func} {F : Ending → World → Prop} {N : Nat} {ks : List K} {ops : Array Oper} {tg : Tags} {l : List Oper} {fr : Fr} {w : World} {ty : TypeId} {pos : String} {aft : Array Edge} {gd : Option (Nat × Bool)} {d : Nat} {x y : Operand} {A : Option Addr}
end
end Go.Proofs.YtnnhenafhalobaaGreat
namespace Go.Proofs.YtnnhenafhalobaaGreat
set_option maxRecDepth 100000
open Go.RowKit
section
variable {P : Program} {fn : Func} {F : Ending → World → Prop} {N : Nat} {ks : List K} {ops : Array Oper} {tg : Tags} {l : List Oper} {fr : Fr} {w : World} {ty ty2 t t' t2 e e2 : TypeId} {z v : Value} {pos pos2 : String} {aft aft2 : Array Edge} {gd gd2 : Option (Nat × Bool)} {d n g i j sz : Nat} {x y : Operand} {a b : UInt64} {k k' : IntKind} {m : Int}
/-! Numbers. -/
theorem u64_lt (a : UInt64) : a.toNat < 18446744073709551616 := a.toNat_lt
theorem o_addU (hx : fr.ev x = some (.int .u64 (a.toNat : Int))) (hy : fr.ev y = some (.int .u64 (b.toNat : Int))) : OpV P N fr w (.binOp .add t x y t') ty (.int .u64 ((a + b).toNat : Int)) w :=
 o_asi (o_addw hx hy) (by rw [IntKind.wrap_u64, UInt64.toNat_add]; omega)
theorem o_subq {n' : Int} (hx : fr.ev x = some (.int .u64 m)) (hy : fr.ev y = some (.int .u64 n')) (h0 : 0 ≤ m - n') (h1 : m - n' ≤ 18446744073709551615) : OpV P N fr w (.binOp .sub t x y t') ty (.int .u64 (m - n')) w :=
 o_asi (o_subw hx hy) (u64_in h0 h1)
theorem o_mulq {n' : Int} (hx : fr.ev x = some (.int .u64 m)) (hy : fr.ev y = some (.int .u64 n')) (h0 : 0 ≤ m * n') (h1 : m * n' ≤ 18446744073709551615) : OpV P N fr w (.binOp .mul t x y t') ty (.int .u64 (m * n')) w :=
 o_asi (o_mulw hx hy) (u64_in h0 h1)
theorem o_xorU (hx : fr.ev x = some (.int .u64 (a.toNat : Int))) (hy : fr.ev y = some (.int .u64 (b.toNat : Int))) : OpV P N fr w (.binOp .xor t x y t') ty (.int .u64 ((a ^^^ b).toNat : Int)) w :=
 o_asi (o_xor hx hy) (by rw [bits_xor_u64_nat _ _ (u64_lt a) (u64_lt b), UInt64.toNat_xor])
theorem o_andU (hx : fr.ev x = some (.int .u64 (a.toNat : Int))) (hy : fr.ev y = some (.int .u64 (b.toNat : Int))) : OpV P N fr w (.binOp .and t x y t') ty (.int .u64 ((a &&& b).toNat : Int)) w :=
 o_asi (o_and hx hy) (by rw [bits_and_u64_nat _ _ (u64_lt a) (u64_lt b), UInt64.toNat_and])
theorem o_orU (hx : fr.ev x = some (.int .u64 (a.toNat : Int))) (hy : fr.ev y = some (.int .u64 (b.toNat : Int))) : OpV P N fr w (.binOp .or t x y t') ty (.int .u64 ((a ||| b).toNat : Int)) w :=
 o_asi (o_or hx hy) (by rw [bits_or_u64_nat _ _ (u64_lt a) (u64_lt b), UInt64.toNat_or])
theorem o_notU (hx : fr.ev x = some (.int .u64 (a.toNat : Int))) : OpV P N fr w (.unOp .xor t x) ty (.int .u64 ((~~~a).toNat : Int)) w := fun c ha o ho _ => by
 have h := u64_lt a
 have e : bits .xor .u64 18446744073709551615 (a.toNat : Int) = ((~~~a).toNat : Int) := by
  have h1 : (BitVec.ofInt 64 (a.toNat : Int)) = a.toBitVec := by
   rw [BitVec.ofInt_natCast]; apply BitVec.eq_of_toNat_eq; rw [BitVec.toNat_ofNat, Nat.mod_eq_of_lt (by omega)]; rfl
  show IntKind.u64.wrap ((BitVec.ofInt 64 18446744073709551615 ^^^ BitVec.ofInt 64 (a.toNat : Int)).toNat : Int) = _
  rw [h1, show BitVec.ofInt 64 18446744073709551615 = BitVec.allOnes 64 from rfl, BitVec.allOnes_xor, ← UInt64.toBitVec_not]
  show IntKind.u64.wrap (((~~~a).toNat : Nat) : Int) = _
  have := u64_lt (~~~a)
  rw [IntKind.wrap_u64]; omega
 have e2 : (execOp c.eval o).run P w = .ok (.value (.int .u64 (bits .xor .u64 18446744073709551615 (a.toNat : Int)))) w := by
  simp [execOp, ho, ha.ev hx, Op.unary]
  rfl
 rw [e2, e]
def shrU (a : UInt64) (n : Nat) : UInt64 := a >>> UInt64.ofNat n
def shlU (a : UInt64) (n : Nat) : UInt64 := a <<< UInt64.ofNat n
theorem shrU_toNat (a : UInt64) {n : Nat} (h : n < 64) : (shrU a n).toNat = a.toNat / 2 ^ n := by
 unfold shrU
 rw [UInt64.toNat_shiftRight, UInt64.toNat_ofNat_of_lt' (by show n < 18446744073709551616; omega), Nat.mod_eq_of_lt h, Nat.shiftRight_eq_div_pow]
theorem shlU_toNat (a : UInt64) {n : Nat} (h : n < 64) : (shlU a n).toNat = a.toNat * 2 ^ n % 18446744073709551616 := by
 unfold shlU
 rw [UInt64.toNat_shiftLeft, UInt64.toNat_ofNat_of_lt' (by show n < 18446744073709551616; omega), Nat.mod_eq_of_lt h, Nat.shiftLeft_eq]
theorem o_shrU (hx : fr.ev x = some (.int .u64 (a.toNat : Int))) (hy : fr.ev y = some (.int k' m)) (h0 : 0 ≤ m) (h1 : m < 64) : OpV P N fr w (.binOp .shr t x y t') ty (.int .u64 ((shrU a m.toNat).toNat : Int)) w :=
 o_asi (o_shr hx hy h0) (by
  rw [shrU_toNat a (by omega), show min m.toNat IntKind.u64.bits = m.toNat by show min m.toNat 64 = _; omega]
  simp)
theorem o_shlU (hx : fr.ev x = some (.int .u64 (a.toNat : Int))) (hy : fr.ev y = some (.int k' m)) (h0 : 0 ≤ m) (h1 : m < 64) : OpV P N fr w (.binOp .shl t x y t') ty (.int .u64 ((shlU a m.toNat).toNat : Int)) w :=
 o_asi (o_shl hx hy h0) (by
  rw [shlU_toNat a (by omega), show min m.toNat IntKind.u64.bits = m.toNat by show min m.toNat 64 = _; omega, IntKind.wrap_u64]
  simp)
theorem o_conv8U {c : UInt8} {dd : TypeDesc} {src dst : TypeId} (hs : P.underlying src = some dd) (hd : P.underlying dst = some (.int .u64)) (hx : fr.ev x = some (.int .u8 (c.toNat : Int))) : OpV P N fr w (.convert src dst x) ty (.int .u64 (c.toUInt64.toNat : Int)) w :=
 o_asi (o_convi hs hd hx) (by have := c.toNat_lt; rw [IntKind.wrap_u64, UInt8.toNat_toUInt64]; omega)
theorem o_convU8 {dd : TypeDesc} {src dst : TypeId} (hs : P.underlying src = some dd) (hd : P.underlying dst = some (.int .u8)) (hx : fr.ev x = some (.int .u64 (a.toNat : Int))) : OpV P N fr w (.convert src dst x) ty (.int .u8 (a.toUInt8.toNat : Int)) w :=
 o_asi (o_convi hs hd hx) (by rw [UInt64.toNat_toUInt8]; show (a.toNat : Int) % 256 = _; omega)

/-! Arrays. -/
def vU (l : List UInt64) : List Value := l.map fun x => .int .u64 (x.toNat : Int)
theorem vU_length (l : List UInt64) : (vU l).length = l.length := List.length_map ..
theorem vU_one (l : List UInt64) : ∀ v ∈ vU l, v.oneCell' = true := fun v h => by
 obtain ⟨x, _, rfl⟩ := List.mem_map.1 h; rfl
theorem vU_set (l : List UInt64) (i : Nat) (a : UInt64) : (vU l).set i (.int .u64 (a.toNat : Int)) = vU (l.set i a) := by
 unfold vU; rw [List.map_set]
theorem o_iaddrP (j : Nat) (hu : P.underlying t = some (.array n e)) (hs : ∀ w, (sizeOf e).run P w = .ok 1 w) (hx : fr.ev x = some (.pointer (some ⟨g, 0, none⟩))) (hy : fr.ev y = some (.int k m)) (hm : m = (j : Int)) (hj : j < n) :
  OpV P N fr w (.indexAddr t x y) ty (.pointer (some ⟨g, j, none⟩)) w := fun a ha op hop _ => by
 subst hm
 have h2 : ¬ n ≤ j := by omega
 simp [execOp, hop, ha.ev hx, ha.ev hy, Instr.indexAt, run_underlying hu, asIntOf, hs, add_plain, Instr.sureAddr, h2]
theorem o_ldU {l : List UInt64} (ha' : ∀ w, (isAgg t).run P w = .ok false w) (hx : fr.ev x = some (.pointer (some ⟨g, i, none⟩))) (hB : Blk w g t' (vU l)) (hi : i < l.length) : OpV P N fr w (.load t x) ty (.int .u64 (l[i].toNat : Int)) w :=
 o_loadb ha' hx hB (by unfold vU; rw [List.getElem?_map, List.getElem?_eq_getElem hi]; rfl)
theorem o_ldUa {l : List UInt64} (ha' : ∀ w, (isAgg t).run P w = .ok true w) (hs : ∀ w, (sizeOf t).run P w = .ok n w) (hx : fr.ev x = some (.pointer (some ⟨g, 0, none⟩))) (hB : Blk w g t' (vU l)) (hn : l.length = n) : OpV P N fr w (.load t x) ty (.agg (vU l).toArray) w :=
 o_load_all ha' hs hx hB (by rw [vU_length, hn])
theorem o_ldBa {l : List UInt8} (ha' : ∀ w, (isAgg t).run P w = .ok true w) (hs : ∀ w, (sizeOf t).run P w = .ok n w) (hx : fr.ev x = some (.pointer (some ⟨g, 0, none⟩))) (hB : Blk w g t' (B8 l)) (hn : l.length = n) : OpV P N fr w (.load t x) ty (.agg (B8 l).toArray) w :=
 o_load_all ha' hs hx hB (by rw [B8_length, hn])
theorem wl_stU {c : List UInt64} (hs : ∀ w, (sizeOf t).run P w = .ok 1 w) (hx : fr.ev x = some (.pointer (some ⟨g, i, none⟩))) (hB : Blk w g t' (vU c)) (hy : fr.ev y = some (.int .u64 (a.toNat : Int))) (hi : i < c.length)
  (hk : ∀ w', Blk w' g t' (vU (c.set i a)) → Grew w w' t' (some g) → w'.heap.size = w.heap.size → WL P fn F N ks ops tg.tail l fr w') (ht : tg.loud = true := by rfl) (hg : onG ops fr gd = true := by rfl) (hq : tg.calm = false ∨ tg.rw.may (some g) := by exact .inl rfl) :
  WL P fn F N ks ops tg (⟨none, .store t x y, ty, pos, aft, gd⟩ :: l) fr w :=
 wl_storeg1 hs hx hy rfl hB (by rw [vU_length]; exact hi) (fun w' h1 h2 h3 => hk w' (by rw [vU_set] at h1; exact h1) h2 h3) ht hg hq
theorem wl_stUa {c q : List UInt64} (hs : ∀ w, (sizeOf t).run P w = .ok n w) (hx : fr.ev x = some (.pointer (some ⟨g, 0, none⟩))) (hB : Blk w g t' (vU c)) (hy : fr.ev y = some (.agg (vU q).toArray)) (hq' : q.length = n) (hi : c.length = n)
  (hk : ∀ w', Blk w' g t' (vU q) → Grew w w' t' (some g) → w'.heap.size = w.heap.size → WL P fn F N ks ops tg.tail l fr w') (ht : tg.loud = true := by rfl) (hg : onG ops fr gd = true := by rfl) (hq : tg.calm = false ∨ tg.rw.may (some g) := by exact .inl rfl) :
  WL P fn F N ks ops tg (⟨none, .store t x y, ty, pos, aft, gd⟩ :: l) fr w :=
 wl_storega hs hx hy (by rw [vU_length, hq']) (vU_one q) hB (by rw [vU_length, hi]) hk ht hg hq
theorem wl_stB {c : List UInt8} {u : UInt8} (hs : ∀ w, (sizeOf t).run P w = .ok 1 w) (hx : fr.ev x = some (.pointer (some ⟨g, i, none⟩))) (hB : Blk w g t' (B8 c)) (hy : fr.ev y = some (.int .u8 (u.toNat : Int))) (hi : i < c.length)
  (hk : ∀ w', Blk w' g t' (B8 (c.set i u)) → Grew w w' t' (some g) → w'.heap.size = w.heap.size → WL P fn F N ks ops tg.tail l fr w') (ht : tg.loud = true := by rfl) (hg : onG ops fr gd = true := by rfl) (hq : tg.calm = false ∨ tg.rw.may (some g) := by exact .inl rfl) :
  WL P fn F N ks ops tg (⟨none, .store t x y, ty, pos, aft, gd⟩ :: l) fr w :=
 wl_storeg1 hs hx hy rfl hB (by rw [B8_length]; exact hi) (fun w' h1 h2 h3 => hk w' (by unfold B8 at h1 ⊢; rw [List.map_set]; exact h1) h2 h3) ht hg hq
theorem wl_stBa {c q : List UInt8} (hs : ∀ w, (sizeOf t).run P w = .ok n w) (hx : fr.ev x = some (.pointer (some ⟨g, 0, none⟩))) (hB : Blk w g t' (B8 c)) (hy : fr.ev y = some (.agg (B8 q).toArray)) (hq' : q.length = n) (hi : c.length = n)
  (hk : ∀ w', Blk w' g t' (B8 q) → Grew w w' t' (some g) → w'.heap.size = w.heap.size → WL P fn F N ks ops tg.tail l fr w') (ht : tg.loud = true := by rfl) (hg : onG ops fr gd = true := by rfl) (hq : tg.calm = false ∨ tg.rw.may (some g) := by exact .inl rfl) :
  WL P fn F N ks ops tg (⟨none, .store t x y, ty, pos, aft, gd⟩ :: l) fr w :=
 wl_storega hs hx hy (by rw [B8_length, hq']) (B8_oneCell' q) hB (by rw [B8_length, hi]) hk ht hg hq
theorem wl_allocstU {q : List UInt64} (hu : P.underlying e = some (.array n e2)) (hz : ∀ w, (zeroValue e).run P w = .ok z w) (hzs : z.cells = (vU (List.replicate n 0)).toArray) (hs : ∀ w, (sizeOf t).run P w = .ok n w) (hy : ∀ u, Fr.ev ((d, u) :: fr) y = some (.agg (vU q).toArray)) (hn : q.length = n)
  (hk : ∀ g w', Blk w' g e (vU q) → Below w.heap.size w w' → w.heap.size ≤ g → g < w'.heap.size → WL P fn F N ks ops tg.tail.tail l ((d, .pointer (some ⟨g, 0, none⟩)) :: fr) w')
  (ht : tg.loud = true := by rfl) (ht2 : tg.tail.loud = true := by rfl) (hg : onG ops fr gd = true := by rfl) (hg2 : ∀ u, onG ops ((d, u) :: fr) gd2 = true := by intro _; rfl) (hd : Nat.blt d N = true := by rfl) (hq : tg.tail.calm = false := by rfl) :
  WL P fn F N ks ops tg (⟨some d, .alloc e, ty, pos, aft, gd⟩ :: ⟨none, .store t (.tmp d) y, ty2, pos2, aft2, gd2⟩ :: l) fr w :=
 wl_allocstn hz _ _ hzs hs hy (by rw [vU_length, List.length_replicate]) (by rw [vU_length, hn]) (vU_one q) hk ht ht2 hg hg2 hd hq
theorem wl_allocU (hu : P.underlying e = some (.array n e2)) (hz : ∀ w, (zeroValue e).run P w = .ok z w) (hzs : z.cells = (vU (List.replicate n 0)).toArray)
  (hk : ∀ g w', Blk w' g e (vU (List.replicate n 0)) → Below w.heap.size w w' → w.heap.size ≤ g → g < w'.heap.size → WL P fn F N ks ops tg.tail l ((d, .pointer (some ⟨g, 0, none⟩)) :: fr) w')
  (ht : tg.loud = true := by rfl) (hg : onG ops fr gd = true := by rfl) (hd : Nat.blt d N = true := by rfl) : WL P fn F N ks ops tg (⟨some d, .alloc e, ty, pos, aft, gd⟩ :: l) fr w :=
 wl_allocg _ hz hzs hk ht hg hd
theorem wl_allocB (hu : P.underlying e = some (.array n e2)) (hz : ∀ w, (zeroValue e).run P w = .ok z w) (hzs : z.cells = (B8 (List.replicate n 0)).toArray)
  (hk : ∀ g w', Blk w' g e (B8 (List.replicate n 0)) → Below w.heap.size w w' → w.heap.size ≤ g → g < w'.heap.size → WL P fn F N ks ops tg.tail l ((d, .pointer (some ⟨g, 0, none⟩)) :: fr) w')
  (ht : tg.loud = true := by rfl) (hg : onG ops fr gd = true := by rfl) (hd : Nat.blt d N = true := by rfl) : WL P fn F N ks ops tg (⟨some d, .alloc e, ty, pos, aft, gd⟩ :: l) fr w :=
 wl_allocg _ hz hzs hk ht hg hd
theorem o_indexU {c : List UInt64} (j : Nat) (hu : P.underlying t = some (.array n e)) (hs : ∀ w, (sizeOf e).run P w = .ok 1 w) (ha' : ∀ w, (isAgg e).run P w = .ok false w) (hx : fr.ev x = some (.agg (vU c).toArray)) (hy : fr.ev y = some (.int k m)) (hm : m = (j : Int)) (hj : j < c.length) (hn : c.length = n) :
  OpV P N fr w (.index t x y) ty (.int .u64 (c[j].toNat : Int)) w := fun a ha op hop _ => by
 subst hm
 have h2 : ¬ n ≤ j := by omega
 simp [execOp, hop, ha.ev hx, ha.ev hy, Instr.index, run_underlying hu, asIntOf, hs, _root_.Go.part, ha', h2, vU, hj]
theorem o_indexB {c : List UInt8} (j : Nat) (hu : P.underlying t = some (.array n e)) (hs : ∀ w, (sizeOf e).run P w = .ok 1 w) (ha' : ∀ w, (isAgg e).run P w = .ok false w) (hx : fr.ev x = some (.agg (B8 c).toArray)) (hy : fr.ev y = some (.int k m)) (hm : m = (j : Int)) (hj : j < c.length) (hn : c.length = n) :
  OpV P N fr w (.index t x y) ty (.int .u8 (c[j].toNat : Int)) w := fun a ha op hop _ => by
 subst hm
 have h2 : ¬ n ≤ j := by omega
 simp [execOp, hop, ha.ev hx, ha.ev hy, Instr.index, run_underlying hu, asIntOf, hs, _root_.Go.part, ha', h2, B8, hj]
theorem o_buildU {ps : Array (Nat × Operand)} {is : List Nat} {xs : List Operand} {vs : List Value} (c : List UInt64) (hu : P.underlying t = some (.array n e)) (his : ps.toList.map Prod.fst = is) (hxs : ps.toList.map Prod.snd = xs) (hx : fr.evs xs = some vs) (hv : vs = c.map fun x => Value.int .u64 (x.toNat : Int)) (hn : c.length = n)
  (hps : ps = (is.zip xs).toArray) (hr : ∀ w, (Instr.build t (is.zip vs).toArray).run P w = .ok (.agg (vU c).toArray) w) : OpV P N fr w (.build t ps) ty (.agg (vU c).toArray) w := by
 subst hps
 exact o_build hx hr
end
end Go.Proofs.YtnnhenafhalobaaGreat
namespace Go.Proofs.YtnnhenafhalobaaGreat
set_option maxRecDepth 100000
open Go.RowKit
section
variable {P : Program} {fn : Func} {F : Ending → World → Prop} {N : Nat} {ks : List K} {ops : Array Oper} {tg : Tags} {l : List Oper} {fr : Fr} {w : World} {ty t t' : TypeId} {pos : String} {aft : Array Edge} {gd : Option (Nat × Bool)} {d n m g c j lo hi : Nat} {x y : Operand} {A : Option Addr} {b : List UInt8} {ad : Addr}
theorem o_slArrW (hu : P.underlying t = some (.array n 5)) (hs : ∀ w, (sizeOf 5).run P w = .ok 1 w) (hx : fr.ev x = some (.pointer (some ad))) : OpV P N fr w (.slice t x none none none) ty (.slice (some ad) n n) w := by
 intro a ha op hop _
 have e : ad.add 0 = ad := by cases ad; simp [Addr.add]
 simp [execOp, hop, ha.ev hx, Instr.sliceAt, Instr.sureAddr, run_underlying hu, Instr.sliceBounds, Instr.sliceBound, asIntOf, hs, e]
theorem o_ldSlArr (ha' : ∀ w, (isAgg t).run P w = .ok true w) (hs : ∀ w, (sizeOf t).run P w = .ok n w) (hx : fr.ev x = some (.pointer A)) (hr : Rd w A b) (hl : b.length = n) (h0 : 0 < n) : OpV P N fr w (.load t x) ty (.agg (B8 b).toArray) w := by
 obtain ⟨k, o, rfl, hc⟩ := hr.2 (fun e => by have := congrArg List.length e; rw [B8_length, hl, List.length_nil] at this; omega)
 exact o_loadn (cs := B8 b) ha' (by rw [B8_length, hl]; exact hs) hx (fun i u hu => by rw [add_plain]; exact hc i u hu)
end
end Go.Proofs.YtnnhenafhalobaaGreat
