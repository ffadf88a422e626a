/-
  Rows of elements of any size: literals, append, parts; results of a cell and a slot; calls of function values.
-/
import Derived.Test.YtahkeoegbjopfaaGreatMg1
import Derived.Laws.Bits64b
namespace Go.Proofs.YtahkeoegbjopfaaGreat
set_option maxRecDepth 100000
open Go.RowKit

theorem foldl_set (o : Nat) : ∀ (vs : List Value) (i : Nat) (L : List Value), o + i + vs.length ≤ L.length →
  (vs.zipIdx i).foldl (fun (cs : Array Value) (x : Value × Nat) => cs.setIfInBounds (o + x.2) x.1) L.toArray = (spl L (o + i) vs).toArray
 | [], i, L, _ => by simp [spl]
 | v :: vs, i, L, hl => by
  simp only [List.length_cons] at hl
  rw [List.zipIdx_cons, List.foldl_cons]
  have ih := foldl_set o vs (i + 1) (L.set (o + i) v) (by simp; omega)
  simp only [List.setIfInBounds_toArray]
  rw [ih]
  congr 1
  have hlt : o + i < L.length := by omega
  simp only [spl, List.length_cons]
  rw [show o + (i + 1) = (o + i) + 1 from by omega, List.take_succ_eq_append_getElem (by simpa using hlt), List.take_set_of_le (Nat.le_refl _), List.drop_set_of_lt (by omega)]
  simp [Nat.add_comm, Nat.add_left_comm, Nat.add_assoc]
theorem fill_rangen {sz : Nat} {place : Nat → Option (Nat × Nat)} (hp : ∀ i, place i = some (i * sz, sz)) : ∀ (vs : List Value) (k : Nat) (cells : List Value), (∀ v ∈ vs, v.cells.size = sz) → (k + vs.length) * sz = cells.length →
  Instr.fill place cells.toArray ((List.range' k vs.length).zip vs) = some (cells.take (k * sz) ++ vs.flatMap fun v => v.cells.toList).toArray
 | [], k, cells, _, hl => by
  simp only [List.length_nil, Nat.add_zero] at hl
  simp [Instr.fill, hl]
 | v :: vs, k, cells, h1, hl => by
  have hv := h1 v (by simp)
  have hlen : k * sz + sz ≤ cells.length := by
   rw [← hl, List.length_cons, Nat.add_mul, Nat.add_mul]; omega
  have hsp := spl_length (L := cells) (vs := v.cells.toList) (k := k * sz) (by simp [hv]; omega)
  have ih := fill_rangen hp vs (k + 1) (spl cells (k * sz) v.cells.toList) (fun u hu => h1 u (by simp [hu])) (by rw [hsp, ← hl, List.length_cons]; congr 1; omega)
  simp only [List.length_cons, List.range'_succ, List.zip_cons_cons, Instr.fill, hp]
  rw [if_neg (by simp [hv]; omega)]
  have hf := foldl_set (k * sz) v.cells.toList 0 cells (by simp [hv]; omega)
  have e : v.cells.zipIdx.foldl (fun cs (x : Value × Nat) => match x with | (c, j) => cs.setIfInBounds (k * sz + j) c) cells.toArray = (spl cells (k * sz) v.cells.toList).toArray := by
   rw [← Array.foldl_toList, Array.toList_zipIdx]
   exact hf
  rw [e, ih]
  congr 2
  rw [List.flatMap_cons, ← List.append_assoc]
  congr 1
  rw [Nat.add_mul, Nat.one_mul, spl, List.take_append_of_le_length (by simp; omega)]
  have h5 : (List.take (k * sz) cells ++ v.cells.toList).length = k * sz + sz := by rw [List.length_append, List.length_take, Nat.min_eq_left (by omega)]; simp [hv]
  rw [← h5, List.take_length]
theorem run_litn {P : Program} {w : World} {t e : TypeId} {z : Value} {sz : Nat} (hu : P.underlying t = some (.slice e)) (hs : ∀ w, (sizeOf e).run P w = .ok sz w) (hz : ∀ w, (zeroValue e).run P w = .ok z w) (vs : List Value) (h1 : ∀ v ∈ vs, v.cells.size = sz) (hn : vs.length * sz ≤ 16777216) :
  (Instr.buildSlice t vs.length ((List.range' 0 vs.length).zip vs).toArray).run P w = .ok (.slice (some ⟨w.heap.size, 0, none⟩) vs.length vs.length) (w.alloc (.cells (vs.flatMap fun v => v.cells.toList).toArray e)) := by
 have hf : ∀ (cells : Array Value), cells.size = vs.length * sz → Instr.fill (fun i => some (i * sz, sz)) cells ((List.range' 0 vs.length).zip vs) = some (vs.flatMap fun v => v.cells.toList).toArray := fun cells hc => by
  have := fill_rangen (place := fun i => some (i * sz, sz)) (fun _ => rfl) vs 0 cells.toList h1 (by simp [hc])
  simpa using this
 have hn' : ¬ (16777216 < vs.length * sz) := by omega
 by_cases hv : vs.length * sz = 0
 ·have h2 := hf #[] (by simp [hv])
  simp [Instr.buildSlice, run_underlying hu, hs, hv, newRow, newObj, Sem.run, show Array.range 0 = #[] from rfl, h2]
 ·have h2 := hf (Array.map (fun x => z.cells[x % z.cells.size]!) (Array.range (vs.length * sz))) (by simp)
  simp [Instr.buildSlice, run_underlying hu, hs, hz, hn', hv, newRow, newObj, Sem.run, h2]

structure RowT (P : Program) (t e : TypeId) (z : Value) (sz bytes : Nat) : Prop where
 ht : P.underlying t = some (.slice e)
 hi : (P.info? e).map (fun i => (i.zero, i.size, i.bytes)) = some (some z, sz, bytes)
 hz : z.cells.size = sz
 h0 : 0 < sz

section
variable {w w' : World} {sz n : Nat} {A : Option Addr} {xs : List Value}
theorem Reads.cutn (h : Reads w sz A n xs) {k m cap : Nat} (hk : k ≤ n) (hc : n ≤ cap) (hm : m = n - k) : Reads w sz (cutA A cap sz k) m (xs.drop (k * sz)) := by
 subst hm
 have hl := h.1
 refine ⟨by rw [List.length_drop, hl, Nat.sub_mul], fun hn => ?_⟩
 have hkn : k * sz < xs.length := by
  rcases Nat.lt_or_ge (k * sz) xs.length with h1 | h1
  ·exact h1
  ·exact absurd (List.drop_eq_nil_of_le h1) hn
 obtain ⟨b, o, rfl, hcell⟩ := h.2 (by intro e; rw [e] at hkn; simp at hkn)
 have hkn' : k < n := by
  rw [hl] at hkn
  exact Nat.lt_of_mul_lt_mul_right hkn
 unfold cutA
 rw [if_neg (by omega)]
 refine ⟨b, o + k * sz, by simp [add_plain], fun j u hu => ?_⟩
 rw [Nat.add_assoc]
 exact hcell _ u (by rw [← hu, List.getElem?_drop])
end

section
variable {P : Program} (w : World)
end

section
variable {P : Program} {fn : Func} {F : Ending → World → Prop} {N : Nat} {ks : List K} {ops : Array Oper} {tg : Tags} {l : List Oper} {fr : Fr} {w : World} {ty t t2 e : TypeId} {z : Value} {sz bytes : Nat} {pos : String} {aft : Array Edge} {gd : Option (Nat × Bool)} {d g : Nat} {x y k : Operand}
theorem wl_appn (T : RowT P t e z sz bytes) {B : Nat} {A X : Option Addr} {n c j q : Nat} {xs ms : List Value} (hx : fr.ev x = some (.slice A n c)) (hown : w.ownsRow B e sz (.slice A n c) n xs) (hy : fr.ev y = some (.slice X j q)) (hr : Reads w sz X j ms) (h1 : ∀ u ∈ ms, u.oneCell' = true)
  (h63 : n + j ≤ maxLen) (hlen : (n + j) * bytes ≤ 140737488355328) (hB : B ≤ w.heap.size)
  (h : ∀ A' c' w', w'.ownsRow B e sz (.slice A' (n + j) c') (n + j) (xs ++ ms) → w.grownBy w' (blk A) → (blk A' = blk A ∨ blk A' = some w.heap.size) → Below B w w' → WL P fn F N ks ops tg.tail l ((d, .slice A' (n + j) c') :: fr) w')
  (ht : tg.loud = true := by rfl) (hg : onG ops fr gd = true := by rfl) (hd : Nat.blt d N = true := by rfl) (hq : tg.calm = false ∨ blk A = none ∨ blk A = tg.row := by exact .inl rfl) :
  WL P fn F N ks ops tg (⟨some d, .call { callee := .builtin .append, args := #[x, y], argTypes := #[t, t] }, ty, pos, aft, gd⟩ :: l) fr w := by
 obtain ⟨i, hi, hz, hs, hb⟩ := info_parts T.hi
 obtain ⟨v', w', hrun, h2, h3, h4⟩ := run_append_any (P := P) w B t ty e i z sz bytes T.ht hi hz hs hb T.hz T.h0 (.slice A n c) n xs hown X j q ms hr h1 h63 hlen hB
 obtain ⟨A', c', rfl⟩ := ownsRow_shape h2
 rw [blk_own] at h3 h4
 rw [blk_own] at h4
 have hlt : ∀ b, blk A = some b → B ≤ b ∧ b < w.heap.size := fun b hb => World.ownsRow.lt hown b (by rw [blk_own]; exact hb)
 exact wl_v (o_builtin (xs := [x, y]) (vs := [.slice A n c, .slice X j q]) (by simp [Fr.evs, hx, hy]) (by simp [builtin, hrun]) (by simp)) (h A' c' w' h2 h3 h4 ((Below.refl B w).grown h3 hB (fun b hb => (hlt b hb).1))) ht hg hd
  (hq.imp id fun e => e.elim (fun e => grown_wide (e ▸ h3) _) (fun e => e ▸ h3))
theorem wl_litn {xs : List Operand} {vs : List Value} (T : RowT P t e z sz bytes) (hs : ∀ w, (sizeOf e).run P w = .ok sz w) (hz : ∀ w, (zeroValue e).run P w = .ok z w) (n : Nat) (hx : fr.evs xs = some vs) (hn : vs.length = n) (h1 : ∀ v ∈ vs, v.cells.size = sz) (hm : Nat.ble (n * sz) 1000000 = true)
  (hk : ∀ w', (∀ B, B ≤ w.heap.size → w'.ownsRow B e sz (.slice (some ⟨w.heap.size, 0, none⟩) n n) n (vs.flatMap fun v => v.cells.toList)) → Below w.heap.size w w' → w'.heap.size = w.heap.size + 1 → WL P fn F N ks ops tg.tail l ((d, .slice (some ⟨w.heap.size, 0, none⟩) n n) :: fr) w')
  (ht : tg.loud = true := by rfl) (hg : onG ops fr gd = true := by rfl) (hd : Nat.blt d N = true := by rfl) : WL P fn F N ks ops tg (⟨some d, .buildSlice t n ((List.range' 0 n).zip xs).toArray, ty, pos, aft, gd⟩ :: l) fr w := by
 subst hn
 have hm' : vs.length * sz ≤ 1000000 := by simpa using hm
 have hr := run_litn (P := P) (w := w) T.ht hs hz vs h1 (by omega)
 have hfl : (vs.flatMap fun v => v.cells.toList).length = vs.length * sz := by
  clear hr hm hm' hk hx
  induction vs with
  | nil => simp
  | cons v vs ih => simp only [List.flatMap_cons, List.length_append, List.length_cons, Array.length_toList, h1 v (by simp), ih (fun u hu => h1 u (by simp [hu])), Nat.add_mul]; omega
 have hlen : vs.length ≤ 1000000 := by
  have h0 := T.h0
  exact Nat.le_trans (Nat.le_mul_of_pos_right _ h0) hm'
 exact wl_v (o_lit hx hr) (hk _ (fun B hB => ⟨hfl, .inr ⟨w.heap.size, vs.length, _, rfl, hB, heap_alloc_new w _, Nat.le_refl _, by simp only [maxLen]; omega, by simpa using hfl, by rw [← hfl]; exact List.take_length⟩⟩) (below_alloc w _) (by simp)) ht hg hd (.inr (grown_of_below (below_alloc w _) _))
theorem run_callf {ρ : Operand → Value} {f : FuncId} (hB : Bodied P f) {q : Operand} {xs : Array Operand} {ts : Array TypeId} {vs cs : Array Value} (hv : xs.map ρ = vs) (hρ : ρ q = .func (.func f) #[] cs) (o : Oper)
  (ho : o.op = .call { callee := .value q, args := xs, argTypes := ts }) : (execOp ρ o).run P w = .ok (.enter f (vs ++ cs)) w := by
 obtain ⟨g, h1, h2, h3⟩ := hB
 simp [execOp, ho, resolve, invoke, hρ, hv, Deferred.ofValue, callFunc, h1]
 rw [if_neg (by simpa using h3), if_neg (by intro e; rw [e] at h2; cases h2)]
theorem wl_callf {f : FuncId} {q : Operand} {xs : List Operand} {ts : Array TypeId} {vs cs : List Value} {R : Value → World → Prop} (hq0 : fr.ev q = some (.func (.func f) #[] cs.toArray)) (hx : fr.evs xs = some vs) (hc : CallsR P f (vs ++ cs) w R) (hk : ∀ v w', R v w' → WL P fn F N ks ops tg.tail l ((d, v) :: fr) w')
  (ht : tg.loud = true := by rfl) (hg : onG ops fr gd = true := by rfl) (hd : Nat.blt d N = true := by rfl) (hq : tg.calm = false ∨ ∀ v w', R v w' → w.grownBy w' tg.row := by exact .inl rfl) :
  WL P fn F N ks ops tg (⟨some d, .call { callee := .value q, args := xs.toArray, argTypes := ts }, ty, pos, aft, gd⟩ :: l) fr w :=
 fun a ha => left_loud ht fun K hK => by
  rw [if_pos (wanted_on (o := ⟨some d, .call { callee := .value q, args := xs.toArray, argTypes := ts }, ty, pos, aft, gd⟩) ha hg)]
  have hargs : Array.map a.eval xs.toArray = vs.toArray := by rw [List.map_toArray, ha.evs hx]
  unfold Oper.wp
  rw [run_callf hc.1 hargs (ha.ev hq0) _ rfl]
  have hc2 := hc.2
  rw [← List.append_toArray] at hc2
  refine Calls.mono hc2 ?_
  rintro e w' ⟨v, rfl, hr⟩
  exact hK _ _ (hq.imp id fun h => Rw.of (h v w' hr)) (hk v w' hr _ (ha.put hd v))
end
end Go.Proofs.YtahkeoegbjopfaaGreat
namespace Go.Proofs.YtahkeoegbjopfaaGreat
set_option maxRecDepth 100000
open Go.RowKit

theorem drew_size (w : World) : w.drew.heap.size = w.heap.size := rfl

theorem oneCell_of {vs : List Value} (h : vs.all (fun v => v.oneCell') = true) : ∀ v ∈ vs, v.oneCell' = true := List.all_eq_true.1 h

/-! Frames that go on from a frame that was there. -/
def Fr.le (fr0 fr : Fr) : Prop := ∀ t v, fr0.get t = some v → fr.get t = some v
theorem Rep.le {N : Nat} {a : Act} {fr fr0 : Fr} (h : Rep N a fr) (hl : Fr.le fr0 fr) : Rep N a fr0 := ⟨h.size, h.defers, fun t v hv => h.get t v (hl t v hv)⟩
theorem Fr.get_of_sub {fr : Fr} : ∀ {c : Fr}, Fr.sub c fr → ∀ t v, c.get t = some v → fr.get t = some v
 | [], _, t, v, h => by cases h
 | (k, u) :: r, hs, t, v, h => by
  rw [Fr.get_cons] at h
  by_cases e : k = t
  ·subst e
   rw [if_pos rfl] at h
   injection h with h
   subst h
   exact hs.1
  ·rw [if_neg e] at h
   exact Fr.get_of_sub hs.2 t v h
def inN (t : Nat) : List Nat → Bool
 | [] => false
 | k :: l => bif Nat.beq k t then true else inN t l
theorem Fr.get_append (c fb : Fr) (t : Nat) : (c ++ fb).get t = match c.get t with
  | some v => some v
  | none => fb.get t := by
 induction c with
 | nil => rfl
 | cons p c ih =>
  obtain ⟨k, u⟩ := p
  rw [List.cons_append, Fr.get_cons, Fr.get_cons]
  by_cases e : k = t
  ·rw [if_pos e, if_pos e]
  ·rw [if_neg e, if_neg e, ih]
theorem Fr.get_none_iff (c : Fr) (t : Nat) : c.get t = none ↔ inN t (c.map Prod.fst) = false := by
 induction c with
 | nil => simp [Fr.get, inN]
 | cons p c ih =>
  obtain ⟨k, u⟩ := p
  show (bif Nat.beq k t then some u else Fr.get c t) = none ↔ (bif Nat.beq k t then true else inN t (c.map Prod.fst)) = false
  cases Nat.beq k t with
  | true => simp
  | false => simpa using ih
def okSlots (c fb : List Nat) : List Nat → Bool
 | [] => true
 | t :: l => (inN t c || !inN t fb) && okSlots c fb l
theorem okSlots_spec {c fb : List Nat} : ∀ {l : List Nat}, okSlots c fb l = true → ∀ t, inN t l = true → inN t c = true ∨ inN t fb = false
 | [], _, t, h => by cases h
 | k :: l, hk, t, h => by
  unfold okSlots at hk
  simp only [Bool.and_eq_true, Bool.or_eq_true, Bool.not_eq_true'] at hk
  have h' : (bif Nat.beq k t then true else inN t l) = true := h
  cases hb : Nat.beq k t with
  | true => rw [← Nat.eq_of_beq_eq_true hb]; exact hk.1
  | false => rw [hb] at h'; exact okSlots_spec hk.2 t h'
theorem Fr.le_of {c fb fr : Fr} (hb : fr.drop (fr.length - fb.length) = fb) (hs : okSlots (c.map Prod.fst) (fb.map Prod.fst) ((fr.take (fr.length - fb.length)).map Prod.fst) = true) (hc : Fr.sub c fr) : Fr.le (c ++ fb) fr := fun t v h => by
 rw [Fr.get_append] at h
 cases hct : c.get t with
 | some u =>
  rw [hct] at h
  have h' : some u = some v := h
  rw [← h']
  exact Fr.get_of_sub hc t u hct
 | none =>
  rw [hct] at h
  have h' : fb.get t = some v := h
  rw [← List.take_append_drop (fr.length - fb.length) fr, hb, Fr.get_append]
  cases hp : Fr.get (fr.take (fr.length - fb.length)) t with
  | none => exact h'
  | some u =>
   exfalso
   have h1 : inN t ((fr.take (fr.length - fb.length)).map Prod.fst) = true := by
    cases hi : inN t ((fr.take (fr.length - fb.length)).map Prod.fst) with
    | true => rfl
    | false => rw [(Fr.get_none_iff _ t).2 hi] at hp; cases hp
   rcases okSlots_spec hs t h1 with h2 | h2
   ·rw [(Fr.get_none_iff c t).1 hct] at h2; cases h2
   ·rw [(Fr.get_none_iff fb t).2 h2] at h'; cases h'
section
variable {P : Program} {fn : Func} {F : Ending → World → Prop} {N : Nat} {ks : List K} {k : K} {ops : Array Oper} {l : List Oper} {fr : Fr} {w : World} {tg : Tags}
theorem RK.le {fr' : Fr} (hs : Fr.le fr' fr) (h : RK P fn F N ks fr' w) : RK P fn F N ks fr w := fun a ha => h a (ha.le hs)
theorem rk_loopf {c : Code} (Inv : Fr → Nat → Fr → World → Prop) {n : Nat} {fr0 : Fr} (hs : Fr.le fr0 fr) (h0 : Inv fr n fr0 w)
  (round : ∀ n fr' w, Inv fr n fr' w → RK P fn F N (.code c :: .inv (fun a w' => ∃ m fr', m < n ∧ Rep N a fr' ∧ Inv fr m fr' w') :: ks) fr' w) : RK P fn F N (.code (.loop c) :: ks) fr w := by
 intro a ha b k cs
 have key : ∀ n fr' a w, Rep N a fr' → Inv fr n fr' w →
   ∃ e a' w', kpost P fn F ks e a' w' ∧ Arrives P (lone (b.at a (.code c :: .inLoop c :: k)) cs w) b k cs e a' w' := by
  intro n
  induction n using Nat.strongRecOn with
  | _ n ih =>
   intro fr' a w hr hI
   obtain ⟨e, a₁, w₁, hq, harr⟩ := round n fr' w hI a hr b (.inLoop c :: k) cs
   cases e with
   | normal =>
    obtain ⟨m, fr'', hlt, hr', hI₁⟩ := hq
    obtain ⟨e₂, a₂, w₂, hq₂, harr₂⟩ := ih m hlt fr'' a₁ w₁ hr' hI₁
    exact ⟨e₂, a₂, w₂, hq₂, .of_steps (Steps.trans harr (.one step_inLoop)) harr₂⟩
   | exit id => exact ⟨_, a₁, w₁, hq, .pass (x := .inLoop c) rfl (fun _ _ => .inl (by simp)) harr⟩
   | goto l => exact ⟨_, a₁, w₁, hq, .pass (x := .inLoop c) rfl (fun _ _ => .inl (by simp)) harr⟩
   | ret => exact ⟨_, a₁, w₁, hq, .pass (x := .inLoop c) rfl (fun _ _ => .inl (by simp)) harr⟩
   | panic ch => exact ⟨_, a₁, w₁, hq, .pass (x := .inLoop c) rfl (fun _ _ => .inl (by simp)) harr⟩
   | outgrown => exact ⟨_, a₁, w₁, hq, .pass (x := .inLoop c) rfl (fun _ _ => .inl (by simp)) harr⟩
 obtain ⟨e, a', w', hq, harr⟩ := key n fr0 a w (ha.le hs) h0
 exact ⟨e, a', w', hq, .of_steps (.one step_loop) harr⟩
theorem rk_againf {Inv : Nat → Fr → World → Prop} {n m : Nat} {fr0 : Fr} (hs : Fr.le fr0 fr) (h : Inv m fr0 w) (hlt : m < n) :
  RK P fn F N (.inv (fun a w' => ∃ m fr', m < n ∧ Rep N a fr' ∧ Inv m fr' w') :: ks) fr w := fun _ ha => ⟨m, fr0, hlt, ha.le hs, h⟩
theorem rk_joinf {id : Nat} (R : Fr → Fr → World → Prop) (h2 : ∀ fr' w, R fr fr' w → RK P fn F N ks fr' w) (h1 : ∀ ks, (∀ fr' w, R fr fr' w → RK P fn F N ks fr' w) → RK P fn F N (k :: .blk id :: ks) fr w) : RK P fn F N (k :: .blk id :: ks) fr w := h1 ks h2
theorem rk_tof {R : Fr → World → Prop} (hj : ∀ fr w, R fr w → RK P fn F N ks fr w) {fr0 : Fr} (hs : Fr.le fr0 fr) (h : R fr0 w) : RK P fn F N ks fr w := (hj fr0 w h).le hs
theorem wl_tof {R : Fr → World → Prop} (hj : ∀ fr w, R fr w → WL P fn F N ks ops tg l fr w) {fr0 : Fr} (hs : Fr.le fr0 fr) (h : R fr0 w) : WL P fn F N ks ops tg l fr w := fun a ha => hj fr0 w h a (ha.le hs)
theorem rk_frame {c fb fr' : Fr} (e : c ++ fb = fr') (h : RK P fn F N ks fr' w) : RK P fn F N ks (c ++ fb) w := e ▸ h
theorem wl_frame {c fb fr' : Fr} (e : c ++ fb = fr') (h : WL P fn F N ks ops tg l fr' w) : WL P fn F N ks ops tg l (c ++ fb) w := e ▸ h
theorem wl_forkf {row : Rw} {m L C n k1 k2 : Nat} {ops : List Oper} (R : Fr → Fr → World → Prop) (D A : List Nat) (ord1 ord2 ordR : List Nat) (ts1 ts2 tsR : List (Tag × Nat)) (hD : ops.map (dmask .any) = D) (hA : ancs .any ops [] = A)
  (hc : (Nat.testBit L k1 && (Nat.testBit L k2 && (rdyK D m k1 && (rdyK D m k2 && (Go.Proofs.YtahkeoegbjopfaaGreat.only2 m k1 k2 D 0 && (Nat.beq n ((inOrder ops ord1).length + extra ts1) && (Nat.beq n ((inOrder ops ord2).length + extra ts2) && (chk ops.toArray ops D A L C ts1 (m ||| 2 ^ k1) && chk ops.toArray ops D A L C ts2 (m ||| 2 ^ k2))))))))) = true)
  (hl1 : (inOrder ops ord1).map some = ops.toArray[k1]? :: opsOf ops.toArray ts1) (hl2 : (inOrder ops ord2).map some = ops.toArray[k2]? :: opsOf ops.toArray ts2)
  (h0 : ∀ fr' w, R fr fr' w → WL P fn F N ks ops.toArray (some (row, tsR)) (inOrder ops ordR) fr' w)
  (h1 : (∀ fr' w, R fr fr' w → WL P fn F N ks ops.toArray (some (row, tsR)) (inOrder ops ordR) fr' w) → WL P fn F N ks ops.toArray (some (row, (.g m L C, k1) :: ts1)) (inOrder ops ord1) fr w)
  (h2 : (∀ fr' w, R fr fr' w → WL P fn F N ks ops.toArray (some (row, tsR)) (inOrder ops ordR) fr' w) → WL P fn F N ks ops.toArray (some (row, (.g m L C, k2) :: ts2)) (inOrder ops ord2) fr w) : WL P fn F N ks ops.toArray (some (row, [(.f m L C, n)])) [] fr w :=
 wl_fork2j (R fr) D A ord1 ord2 ordR ts1 ts2 tsR hD hA hc hl1 hl2 h0 h1 h2
end

/-! Which blocks a change may touch. -/
def Ap (row : Option Nat) (lo hi : Nat) : Prop := ∀ k, row = some k → k < lo ∨ hi ≤ k
theorem ap_some {g lo hi : Nat} (h : g < lo ∨ hi ≤ g) : Ap (some g) lo hi := fun k e => by injection e with e; omega
def TyAt (w : World) (k : Nat) (e : TypeId) : Prop := ∃ cs f, w.heap[k]? = some (.cells cs e f)
structure Grew (w w' : World) (e : TypeId) (row : Option Nat) : Prop where
 g : w.grownBy w' row
 ty : ∀ k, row = some k → TyAt w k e
theorem Grew.size {w w' : World} {e : TypeId} {row : Option Nat} (h : Grew w w' e row) : w.heap.size ≤ w'.heap.size := h.g.size
theorem Grew.below {w w' : World} {e : TypeId} {row : Option Nat} (h : Grew w w' e row) {B : Nat} (hB : B ≤ w.heap.size) (ha : ∀ k, row = some k → B ≤ k) : Below B w w' :=
 ⟨h.g.os, h.g.tape, h.g.output, h.g.size, fun k hk => h.g.block k (by omega) (fun e => by have := ha k e.symm; omega)⟩

structure GrewM (w w' : World) (b : Nat) : Prop where
 g : w.grownBy w' (some b)
 m : ∃ es c, w.heap[b]? = some (.map es c)
section
variable {w w' : World} {g : Nat} {t e : TypeId} {cs : List Value} {row : Option Nat}
theorem Blk.u (h : Blk w g t cs) (hb : Below w.heap.size w w') : Blk w' g t cs := h.under hb
theorem Blk.d (h : Blk w g t cs) : Blk w.drew g t cs := h
theorem Blk.k (h : Blk w g t cs) (hg : w.grownBy w' row) (ha : Ap row g (g + 1)) : Blk w' g t cs := h.grown hg (fun e => by have := ha g e.symm; omega)
theorem Blk.y (h : Blk w g t cs) (hg : Grew w w' e row) (hne : e ≠ t) : Blk w' g t cs := h.grown hg.g (fun e' => by
 obtain ⟨cs', f, h'⟩ := hg.ty g e'.symm
 unfold Blk at h
 rw [h] at h'
 injection h' with h'
 injection h' with _ h'
 exact hne h'.symm)
theorem Blk.at_ (h : Blk w g t cs) : TyAt w g t := ⟨_, _, h⟩
end

section
variable {w w' : World} {sz n lo hi c : Nat} {e e' : TypeId} {A : Option Addr} {xs : List Value} {l : List UInt8} {row : Option Nat}
theorem Rd.u (h : Rd w A l) (hb : Below w.heap.size w w') : Rd w' A l := h.below hb
theorem Rd.d (h : Rd w A l) : Rd w.drew A l := h
theorem Rd.to_Reads (h : Rd w A l) : Reads w 1 A l.length (B8 l) := h
theorem Rd.nil_ : Rd w none [] := Rd.nil w none
structure RowH (w : World) (lo hi : Nat) (e : TypeId) (sz : Nat) (A : Option Addr) (n c : Nat) (xs : List Value) : Prop where
 o : w.ownsRow lo e sz (.slice A n c) n xs
 hi : ∀ k, blk A = some k → k < hi
theorem RowH.lt (h : RowH w lo hi e sz A n c xs) : ∀ k, blk A = some k → lo ≤ k ∧ k < w.heap.size := fun k hk => World.ownsRow.lt h.o k (by rw [blk_own]; exact hk)
theorem RowH.u (h : RowH w lo hi e sz A n c xs) (hb : Below w.heap.size w w') : RowH w' lo hi e sz A n c xs :=
 ⟨World.ownsRow.kept h.o (row := none) ⟨hb.os, hb.tape, hb.output, hb.size, fun k hk _ => hb.block k hk⟩ (by rw [blk_own]; cases blk A <;> simp), h.hi⟩
theorem RowH.d (h : RowH w lo hi e sz A n c xs) : RowH w.drew lo hi e sz A n c xs := ⟨World.ownsRow.drew h.o, h.hi⟩
theorem RowH.k (h : RowH w lo hi e sz A n c xs) (hg : w.grownBy w' row) (ha : Ap row lo hi) : RowH w' lo hi e sz A n c xs :=
 ⟨World.ownsRow.kept h.o hg (by
  rw [blk_own]
  cases hA : blk A with
  | none => exact .inl rfl
  | some k => exact .inr fun e => by have := h.hi k hA; have := h.lt k hA; have := ha k e.symm; omega), h.hi⟩
theorem RowH.ty (h : RowH w lo hi e sz A n c xs) : ∀ k, blk A = some k → TyAt w k e := fun k hk => by
 rcases h.o.2 with ⟨hv, _⟩ | ⟨g', cap, cur, hv, _, hh, _⟩
 ·injection hv with hv; subst hv; cases hk
 ·injection hv with hv; subst hv
  have : g' = k := by simpa [blk] using hk
  subst this
  exact ⟨_, _, hh⟩
theorem RowH.y (h : RowH w lo hi e sz A n c xs) (hg : Grew w w' e' row) (hne : e' ≠ e) : RowH w' lo hi e sz A n c xs :=
 ⟨World.ownsRow.kept h.o hg.g (by
  rw [blk_own]
  cases hA : blk A with
  | none => exact .inl rfl
  | some k =>
   refine .inr (fun ek => ?_)
   obtain ⟨_, _, h1⟩ := h.ty k hA
   obtain ⟨_, _, h2⟩ := hg.ty k ek.symm
   rw [h1] at h2
   injection h2 with h2
   injection h2 with _ h2
   exact hne h2.symm), h.hi⟩
theorem RowH.ap (h : RowH w lo hi e sz A n c xs) {lo' hi' : Nat} (hd : hi ≤ lo' ∨ hi' ≤ lo) : Ap (blk A) lo' hi' := fun k hk => by have := h.hi k hk; have := h.lt k hk; omega
theorem RowH.rd (h : RowH w lo hi e sz A n c xs) : Reads w sz A n xs := Reads.of_own h.o
theorem RowH.cap (h : RowH w lo hi e sz A n c xs) : n ≤ c := by
 rcases h.o.2 with ⟨h1, h2⟩ | ⟨g, cap, cur, h2, h3, h4, h5, _⟩
 ·injection h1 with _ _ h3; omega
 ·injection h2 with _ _ h6; omega
theorem RowH.base (h : RowH w lo hi e sz A n c xs) {lo' hi' : Nat} (h1 : lo' ≤ lo) (h2 : hi ≤ hi') : RowH w lo' hi' e sz A n c xs :=
 ⟨⟨h.o.1, by
  rcases h.o.2 with h3 | ⟨g, cap, cur, h3, h4, h5⟩
  ·exact .inl h3
  ·exact .inr ⟨g, cap, cur, h3, by omega, h5⟩⟩, fun k hk => by have := h.hi k hk; omega⟩
theorem RowH.nil (w : World) (lo hi : Nat) (e : TypeId) (sz : Nat) : RowH w lo hi e sz none 0 0 [] := ⟨World.ownsRow_nil _ _ _ _, fun k hk => by cases hk⟩

def OwnH (w : World) (lo hi : Nat) (A : Option Addr) (c : Nat) (l : List UInt8) : Prop := RowH w lo hi 5 1 A l.length c (B8 l)
theorem OwnH.u (h : OwnH w lo hi A c l) (hb : Below w.heap.size w w') : OwnH w' lo hi A c l := RowH.u h hb
theorem OwnH.d (h : OwnH w lo hi A c l) : OwnH w.drew lo hi A c l := RowH.d h
theorem OwnH.k (h : OwnH w lo hi A c l) (hg : w.grownBy w' row) (ha : Ap row lo hi) : OwnH w' lo hi A c l := RowH.k h hg ha
theorem OwnH.y (h : OwnH w lo hi A c l) (hg : Grew w w' e' row) (hne : e' ≠ 5) : OwnH w' lo hi A c l := RowH.y h hg hne
theorem OwnH.ap (h : OwnH w lo hi A c l) {lo' hi' : Nat} (hd : hi ≤ lo' ∨ hi' ≤ lo) : Ap (blk A) lo' hi' := RowH.ap h hd
theorem OwnH.cap (h : OwnH w lo hi A c l) : l.length ≤ c := RowH.cap h
theorem OwnH.to_Rd (h : OwnH w lo hi A c l) : Rd w A l := RowH.rd h
theorem OwnH.base (h : OwnH w lo hi A c l) {lo' hi' : Nat} (h1 : lo' ≤ lo) (h2 : hi ≤ hi') : OwnH w lo' hi' A c l := RowH.base h h1 h2
theorem OwnH.nil_ : OwnH w lo hi none 0 [] := RowH.nil _ _ _ _ _
theorem Own.h_ (h : Own w lo A c l) : OwnH w lo w.heap.size A c l := ⟨h, fun k hk => (Own.lt h k hk).2⟩
end

section
variable {P : Program} {fn : Func} {F : Ending → World → Prop} {N : Nat} {ks : List K} {ops : Array Oper} {tg : Tags} {l : List Oper} {fr : Fr} {w : World} {ty t t' t2 e : TypeId} {z v : Value} {sz bytes : Nat} {pos pos2 : String} {aft aft2 : Array Edge} {gd gd2 : Option (Nat × Bool)} {d g i n : Nat} {x y k : Operand} {cs : List Value} {ty2 : TypeId}

/-! New blocks. -/
theorem wl_allocg (zs : List Value) (hz : ∀ w, (zeroValue e).run P w = .ok z w) (hzs : z.cells = zs.toArray)
  (hk : ∀ g w', Blk w' g e zs → Below w.heap.size w w' → w.heap.size ≤ g → g < w'.heap.size → WL P fn F N ks ops tg.tail l ((d, .pointer (some ⟨g, 0, none⟩)) :: fr) w')
  (ht : tg.loud = true := by rfl) (hg : onG ops fr gd = true := by rfl) (hd : Nat.blt d N = true := by rfl) : WL P fn F N ks ops tg (⟨some d, .alloc e, ty, pos, aft, gd⟩ :: l) fr w :=
 wl_alloc zs hz hzs (fun w' h1 h2 h3 => hk _ w' h1 h2 (Nat.le_refl _) (by omega)) ht hg hd
theorem wl_boxg (vs : List Value) (hx : fr.ev x = some v) (hvs : v.cells = vs.toArray)
  (hk : ∀ g w', Blk w' g e vs → Below w.heap.size w w' → w.heap.size ≤ g → g < w'.heap.size → WL P fn F N ks ops tg.tail l ((d, .pointer (some ⟨g, 0, none⟩)) :: fr) w')
  (ht : tg.loud = true := by rfl) (hg : onG ops fr gd = true := by rfl) (hd : Nat.blt d N = true := by rfl) : WL P fn F N ks ops tg (⟨some d, .box e x, ty, pos, aft, gd⟩ :: l) fr w :=
 wl_box vs hx hvs (fun w' h1 h2 h3 => hk _ w' h1 h2 (Nat.le_refl _) (by omega)) ht hg hd
theorem wl_allocstn (hz : ∀ w, (zeroValue e).run P w = .ok z w) (zs vs : List Value) (hzs : z.cells = zs.toArray) (hs : ∀ w, (sizeOf t).run P w = .ok n w) (hy : ∀ u, Fr.ev ((d, u) :: fr) y = some (.agg vs.toArray)) (hzl : zs.length = n) (hn : vs.length = n) (h1 : ∀ v ∈ vs, v.oneCell' = true)
  (hk : ∀ g w', Blk w' g e vs → Below w.heap.size w w' → w.heap.size ≤ g → g < w'.heap.size → WL P fn F N ks ops tg.tail.tail l ((d, .pointer (some ⟨g, 0, none⟩)) :: fr) w')
  (ht : tg.loud = true := by rfl) (ht2 : tg.tail.loud = true := by rfl) (hg : onG ops fr gd = true := by rfl) (hg2 : ∀ u, onG ops ((d, u) :: fr) gd2 = true := by intro _; rfl) (hd : Nat.blt d N = true := by rfl) (hq : tg.tail.calm = false := by rfl) :
  WL P fn F N ks ops tg (⟨some d, .alloc e, ty, pos, aft, gd⟩ :: ⟨none, .store t (.tmp d) y, ty2, pos2, aft2, gd2⟩ :: l) fr w :=
 wl_alloc zs hz hzs (fun w1 hB hb hz1 => wl_store_all hs (show Fr.ev ((d, .pointer (some ⟨w.heap.size, 0, none⟩)) :: fr) (.tmp d) = _ by simp [Fr.ev, Fr.get]) (hy _) hn h1 hB hzl (fun w2 hB2 hg2' hz2 => hk w.heap.size w2
  hB2 (hb.trans (below_of_grownBy hg2' (by omega) (Nat.le_refl _))) (Nat.le_refl _) (by omega)) ht2 (hg2 _) (.inl hq)) ht hg hd

/-! Stores into blocks of the call's own. -/
theorem wl_storeg1 (hs : ∀ w, (sizeOf t).run P w = .ok 1 w) (hx : fr.ev x = some (.pointer (some ⟨g, i, none⟩))) (hy : fr.ev y = some v) (h1 : v.oneCell' = true) (hB : Blk w g t' cs) (hi : i < cs.length)
  (hk : ∀ w', Blk w' g t' (cs.set i v) → Grew w w' t' (some g) → w'.heap.size = w.heap.size → WL P fn F N ks ops tg.tail l fr w') (ht : tg.loud = true := by rfl) (hg : onG ops fr gd = true := by rfl) (hq : tg.calm = false ∨ tg.rw.may (some g) := by exact .inl rfl) :
  WL P fn F N ks ops tg (⟨none, .store t x y, ty, pos, aft, gd⟩ :: l) fr w :=
 wl_store1 hs hx hy h1 hB hi (fun w' h1 h2 h3 => hk w' h1 ⟨h2, fun k e => by injection e with e; subst e; exact hB.at_⟩ h3) ht hg hq
theorem wl_storega {vs : List Value} (hs : ∀ w, (sizeOf t).run P w = .ok n w) (hx : fr.ev x = some (.pointer (some ⟨g, 0, none⟩))) (hy : fr.ev y = some (.agg vs.toArray)) (hn : vs.length = n) (h1 : ∀ v ∈ vs, v.oneCell' = true) (hB : Blk w g t' cs) (hi : cs.length = n)
  (hk : ∀ w', Blk w' g t' vs → Grew w w' t' (some g) → w'.heap.size = w.heap.size → WL P fn F N ks ops tg.tail l fr w') (ht : tg.loud = true := by rfl) (hg : onG ops fr gd = true := by rfl) (hq : tg.calm = false ∨ tg.rw.may (some g) := by exact .inl rfl) :
  WL P fn F N ks ops tg (⟨none, .store t x y, ty, pos, aft, gd⟩ :: l) fr w :=
 wl_store_all hs hx hy hn h1 hB hi (fun w' h1 h2 h3 => hk w' h1 ⟨h2, fun k e => by injection e with e; subst e; exact hB.at_⟩ h3) ht hg hq
theorem wl_storegn {vs : List Value} (hs : ∀ w, (sizeOf t).run P w = .ok n w) (hx : fr.ev x = some (.pointer (some ⟨g, i, none⟩))) (hy : fr.ev y = some (.agg vs.toArray)) (hn : vs.length = n) (h1 : ∀ v ∈ vs, v.oneCell' = true) (hB : Blk w g t' cs) (hi : i + n ≤ cs.length)
  (hk : ∀ w', Blk w' g t' (spl cs i vs) → Grew w w' t' (some g) → w'.heap.size = w.heap.size → WL P fn F N ks ops tg.tail l fr w') (ht : tg.loud = true := by rfl) (hg : onG ops fr gd = true := by rfl) (hq : tg.calm = false ∨ tg.rw.may (some g) := by exact .inl rfl) :
  WL P fn F N ks ops tg (⟨none, .store t x y, ty, pos, aft, gd⟩ :: l) fr w :=
 wl_storen hs hx hy hn h1 hB hi (fun w' h1 h2 h3 => hk w' h1 ⟨h2, fun k e => by injection e with e; subst e; exact hB.at_⟩ h3) ht hg hq

/-! Loads out of blocks. -/
theorem o_loadbg (ha' : ∀ w, (isAgg t).run P w = .ok false w) (hx : fr.ev x = some (.pointer (some ⟨g, i, none⟩))) (hB : Blk w g t' cs) (hi : cs[i]? = some v) : OpV P N fr w (.load t x) ty v w := o_loadb ha' hx hB hi
theorem o_loadag (ha' : ∀ w, (isAgg t).run P w = .ok true w) (hs : ∀ w, (sizeOf t).run P w = .ok n w) (hx : fr.ev x = some (.pointer (some ⟨g, 0, none⟩))) (hB : Blk w g t' cs) (hn : cs.length = n) : OpV P N fr w (.load t x) ty (.agg cs.toArray) w := o_load_all ha' hs hx hB hn

/-! Elements of slices: addresses. -/
def adr (A : Option Addr) (k : Nat) : Addr := (A.getD ⟨0, 0, none⟩).add k
theorem adr_add (A : Option Addr) (i j : Nat) : (adr A i).add j = adr A (i + j) := add_of_add _ _ _
theorem Reads.adr_ {A : Option Addr} {xs : List Value} {n : Nat} (h : Reads w sz A n xs) (hne : xs ≠ []) : A = some (A.getD ⟨0, 0, none⟩) ∧ ∀ j u, xs[j]? = some u → w.cell? (adr A j) = some u := by
 obtain ⟨b, o, rfl, hc⟩ := h.2 hne
 exact ⟨rfl, fun j u hu => by simp only [adr, Option.getD_some, add_plain]; exact hc j u hu⟩
section
variable {A : Option Addr} {len cap : Nat} {ik : IntKind} {m : Int} {xs : List Value} {w0 : World}
theorem Reads.some_ (hr : Reads w0 sz A len xs) (h0 : 0 < sz) (hj : 0 < len) : A = some (A.getD ⟨0, 0, none⟩) := by
 refine (hr.adr_ (fun e => ?_)).1
 have := hr.1
 rw [e, List.length_nil] at this
 rcases Nat.mul_eq_zero.1 this.symm with h | h <;> omega
theorem o_iaddrA (j : Nat) (hu : P.underlying t = some (.slice e)) (hs : ∀ w, (sizeOf e).run P w = .ok sz w) (hx : fr.ev x = some (.slice A len cap)) (hy : fr.ev y = some (.int ik m)) (hm : m = (j : Int)) (hA : A = some (A.getD ⟨0, 0, none⟩)) (hj : j < len) :
  OpV P N fr w (.indexAddr t x y) ty (.pointer (some (adr A (j * sz)))) w := fun a ha op hop _ => by
 subst hm
 have h2 : ¬ len ≤ j := by omega
 have hx' : a.eval x = .slice (some (A.getD ⟨0, 0, none⟩)) len cap := by rw [ha.ev hx]; exact congrArg (fun A => Value.slice A len cap) hA
 simp [execOp, hop, hx', ha.ev hy, Instr.indexAt, run_underlying hu, asIntOf, hs, adr]
 intro h; exact absurd h h2
theorem o_iaddrA1 (j : Nat) (hu : P.underlying t = some (.slice e)) (hs : ∀ w, (sizeOf e).run P w = .ok 1 w) (hx : fr.ev x = some (.slice A len cap)) (hy : fr.ev y = some (.int ik m)) (hm : m = (j : Int)) (hA : A = some (A.getD ⟨0, 0, none⟩)) (hj : j < len) :
  OpV P N fr w (.indexAddr t x y) ty (.pointer (some (adr A j))) w := o_as (o_iaddrA j hu hs hx hy hm hA hj) (by rw [Nat.mul_one])
theorem o_faddrA {s : TypeId} {fs : Array Field} {f : Field} {i off fsz : Nat} {ad : Addr} (hu : P.underlying s = some (.struct fs)) (hf : fs[i]? = some f) (hs : ∀ w, (sizeOf f.type).run P w = .ok fsz w) (hz : Nat.blt 0 fsz = true) (ho : f.offset = off)
  (hx : fr.ev x = some (.pointer (some ad))) : OpV P N fr w (.fieldAddr s x i) ty (.pointer (some (ad.add off))) w := fun a ha op hop _ => by
 have hz' : fsz ≠ 0 := by
  have : 0 < fsz := by simpa using hz
  omega
 subst ho
 simp [execOp, hop, ha.ev hx, Instr.fieldAt, run_underlying hu, hf, Instr.sureAddr, fieldPlace, hs, hz']
theorem o_faddrR {s : TypeId} {fs : Array Field} {f : Field} {i off fsz k : Nat} {A : Option Addr} (hx : fr.ev x = some (.pointer (some (adr A k)))) (hu : P.underlying s = some (.struct fs)) (hf : fs[i]? = some f) (hs : ∀ w, (sizeOf f.type).run P w = .ok fsz w) (hz : Nat.blt 0 fsz = true) (ho : f.offset = off) :
  OpV P N fr w (.fieldAddr s x i) ty (.pointer (some (adr A (k + off)))) w := o_as (o_faddrA hu hf hs hz ho hx) (by rw [adr_add])
theorem o_loadA1 (ha' : ∀ w, (isAgg t).run P w = .ok false w) (hx : fr.ev x = some (.pointer (some (adr A i)))) (hr : Reads w sz A n xs) (hv : xs[i]? = some v) : OpV P N fr w (.load t x) ty v w :=
 o_load ha' hx ((hr.adr_ (fun e => by rw [e] at hv; cases hv)).2 _ _ hv)
theorem o_loadB {j : Nat} {bs : List UInt8} (ha' : ∀ w, (isAgg t).run P w = .ok false w) (hx : fr.ev x = some (.pointer (some (adr A j)))) (hr : Rd w A bs) (hj : j < bs.length) : OpV P N fr w (.load t x) ty (.int .u8 (bs[j].toNat : Int)) w :=
 o_loadA1 ha' hx hr (B8_get bs j hj)
end

/-! Literals of structs and arrays. -/
def lay (offs : Nat → Nat) : List Value → List (Nat × Value) → List Value
 | L, [] => L
 | L, (i, v) :: r => lay offs (spl L (offs i) v.cells.toList) r
theorem o_buildg {ps : Array (Nat × Operand)} {is : List Nat} {xs : List Operand} {vs : List Value} {fs : Array Field} (cs : List Value) (hu : P.underlying t = some (.struct fs)) (hz : ∀ w, (zeroValue t).run P w = .ok z w) (his : ps.toList.map Prod.fst = is) (hxs : ps.toList.map Prod.snd = xs) (hx : fr.evs xs = some vs)
  (hc : lay (fun i => ((fs[i]?).map (fun f => f.offset)).getD 0) z.cells.toList (is.zip vs) = cs) (hps : ps = (is.zip xs).toArray) (hr : ∀ w, (Instr.build t (is.zip vs).toArray).run P w = .ok (.agg cs.toArray) w) : OpV P N fr w (.build t ps) ty (.agg cs.toArray) w := by
 subst hps
 exact o_build hx hr
theorem o_buildga {ps : Array (Nat × Operand)} {is : List Nat} {xs : List Operand} {vs : List Value} (cs : List Value) (hu : P.underlying t = some (.array n e)) (hs : ∀ w, (sizeOf e).run P w = .ok sz w) (hz : ∀ w, (zeroValue t).run P w = .ok z w) (his : ps.toList.map Prod.fst = is) (hxs : ps.toList.map Prod.snd = xs) (hx : fr.evs xs = some vs)
  (hc : lay (fun i => i * sz) z.cells.toList (is.zip vs) = cs) (hps : ps = (is.zip xs).toArray) (hr : ∀ w, (Instr.build t (is.zip vs).toArray).run P w = .ok (.agg cs.toArray) w) : OpV P N fr w (.build t ps) ty (.agg cs.toArray) w := by
 subst hps
 exact o_build hx hr

/-! append, literals. -/
theorem run_append_cap0 {P : Program} (w : World) {t e ty : TypeId} {i : TypeInfo} (ht : P.underlying t = some (.slice e)) (hi : P.info? e = some i) (A : Option Addr) {X : Option Addr} {m q : Nat} (hm : 0 < m) (hb : Builtin.nextslicecap m 0 * i.bytes ≤ 281474976710656) :
  (Builtin.append_ #[t, t] ty #[.slice A 0 0, .slice X m q]).run P w = (Builtin.append_ #[t, t] ty #[.slice none 0 0, .slice X m q]).run P w := by
 have h0 : m ≠ 0 := by omega
 have h48' : ¬ (281474976710656 < Builtin.nextslicecap m 0 * i.bytes) := by omega
 have h1 : ∀ w, (Builtin.firstCells i.size 0 (.slice A 0 0)).run P w = .ok #[] w := fun w => by
  cases A <;> simp [Builtin.firstCells, loadCells, loadCellsFrom]
 have h2 : ∀ w, (Builtin.firstCells i.size 0 (.slice none 0 0)).run P w = .ok #[] w := fun w => by
  simp [Builtin.firstCells]
 simp [Builtin.append_, run_underlying ht, sizeOf, typeInfo, hi, Builtin.lenOf, h0, h48', h1, h2]
section
variable {A X : Option Addr} {c j q lo hi : Nat} {xs ms : List Value}
theorem wl_appR (T : RowT P t e z sz bytes) (hx : fr.ev x = some (.slice A n c)) (hown : RowH w lo hi e sz A n c xs) (hy : fr.ev y = some (.slice X j q)) (hr : Reads w sz X j ms) (h1 : ∀ u ∈ ms, u.oneCell' = true) (h63 : n + j ≤ maxLen) (hlen : (n + j) * bytes ≤ 140737488355328) (hB : lo ≤ w.heap.size)
  (h : ∀ A' c' w', RowH w' lo w'.heap.size e sz A' (n + j) c' (xs ++ ms) → Grew w w' e (blk A) → Below lo w w' → (blk A' = blk A ∨ blk A' = some w.heap.size) → WL P fn F N ks ops tg.tail l ((d, .slice A' (n + j) c') :: fr) w')
  (ht : tg.loud = true := by rfl) (hg : onG ops fr gd = true := by rfl) (hd : Nat.blt d N = true := by rfl) (hq : tg.calm = false ∨ blk A = none ∨ blk A = tg.row := by exact .inl rfl) :
  WL P fn F N ks ops tg (⟨some d, .call { callee := .builtin .append, args := #[x, y], argTypes := #[t, t] }, ty, pos, aft, gd⟩ :: l) fr w :=
 wl_appn T hx hown.o hy hr h1 h63 hlen hB (fun A' c' w' h1 h2 h3 h4 => h A' c' w' ⟨h1, fun k hk => (World.ownsRow.lt h1 k (by rw [blk_own]; exact hk)).2⟩ ⟨h2, hown.ty⟩ h4 h3) ht hg hd hq
theorem wl_appR0 (T : RowT P t e z sz bytes) (hx : fr.ev x = some (.slice A 0 0)) (hown : RowH w lo hi e sz A 0 0 []) (hy : fr.ev y = some (.slice X j q)) (hr : Reads w sz X j ms) (h1 : ∀ u ∈ ms, u.oneCell' = true) (h63 : j ≤ maxLen) (hlen : j * bytes ≤ 140737488355328) (hB : lo ≤ w.heap.size)
  (h : ∀ A' c' w', RowH w' lo w'.heap.size e sz A' j c' ms → Below w.heap.size w w' → WL P fn F N ks ops tg.tail l ((d, .slice A' j c') :: fr) w')
  (ht : tg.loud = true := by rfl) (hg : onG ops fr gd = true := by rfl) (hd : Nat.blt d N = true := by rfl) :
  WL P fn F N ks ops tg (⟨some d, .call { callee := .builtin .append, args := #[x, y], argTypes := #[t, t] }, ty, pos, aft, gd⟩ :: l) fr w := by
 obtain ⟨i, hi, hz, hs, hb⟩ := info_parts T.hi
 rcases Nat.eq_zero_or_pos j with h0 | h0
 ·subst h0
  have hm : ms = [] := List.eq_nil_of_length_eq_zero (by rw [hr.1]; simp)
  subst hm
  have hrun : (Builtin.append_ #[t, t] ty #[.slice A 0 0, .slice X 0 q]).run P w = .ok (.slice A 0 0) w := by
   have hst : ∀ a : Addr, (storeCells a [] 0).run P w = .ok () w := fun a => by simp [storeCells]
   have hf : (Builtin.firstCells i.size 0 (.slice X 0 q)).run P w = .ok #[] w := by cases X <;> simp [Builtin.firstCells, loadCells, loadCellsFrom]
   cases A <;> simp [Builtin.append_, run_underlying T.ht, sizeOf, typeInfo, hi, Builtin.lenOf, hf, storeCells]
  exact wl_v (o_builtin (xs := [x, y]) (vs := [.slice A 0 0, .slice X 0 q]) (by simp [Fr.evs, hx, hy]) (by simp [builtin, hrun]) (by simp)) (h A 0 w ⟨hown.o, fun k hk => (hown.lt k hk).2⟩ (Below.refl _ _)) ht hg hd (.inr (grown_of_below (Below.refl _ _) _))
 ·obtain ⟨v', w', hrun, h2, h3, h4⟩ := run_append_any (P := P) w w.heap.size t ty e i z sz bytes T.ht hi hz hs hb T.hz T.h0 (.slice none 0 0) 0 [] (World.ownsRow_nil _ _ _ _) X j q ms hr h1 (by omega) (by rw [Nat.zero_add]; exact hlen) (Nat.le_refl _)
  obtain ⟨A', c', rfl⟩ := ownsRow_shape h2
  rw [← run_append_cap0 (P := P) w T.ht hi A h0 (by rw [nextslicecap_zero h0, hb]; omega)] at hrun
  have hbl : Below w.heap.size w w' := below_of_grown_none h3
  simp only [Nat.zero_add, List.nil_append] at h2 hrun
  have hR : RowH w' w.heap.size w'.heap.size e sz A' j c' ms := ⟨h2, fun k hk => (World.ownsRow.lt h2 k (by rw [blk_own]; exact hk)).2⟩
  exact wl_v (o_builtin (xs := [x, y]) (vs := [.slice A 0 0, .slice X j q]) (by simp [Fr.evs, hx, hy]) (by simp [builtin, hrun]) (by simp)) (h A' c' w' (hR.base hB (Nat.le_refl _)) hbl) ht hg hd (.inr (grown_of_below hbl _))
theorem wl_appB (T : U8 P t) {s m : List UInt8} (hx : fr.ev x = some (.slice A n c)) (hown : OwnH w lo hi A c s) (hn : n = s.length) (hy : fr.ev y = some (.slice X j q)) (hr : Rd w X m) (hj : j = m.length) (hlen : s.length + m.length ≤ 4000000000) (hB : lo ≤ w.heap.size)
  (h : ∀ A' c' w', OwnH w' lo w'.heap.size A' c' (s ++ m) → Grew w w' 5 (blk A) → Below lo w w' → (blk A' = blk A ∨ blk A' = some w.heap.size) → WL P fn F N ks ops tg.tail l ((d, .slice A' (s ++ m).length c') :: fr) w')
  (ht : tg.loud = true := by rfl) (hg : onG ops fr gd = true := by rfl) (hd : Nat.blt d N = true := by rfl) (hq : tg.calm = false ∨ blk A = none ∨ blk A = tg.row := by exact .inl rfl) :
  WL P fn F N ks ops tg (⟨some d, .call { callee := .builtin .append, args := #[x, y], argTypes := #[t, t] }, ty, pos, aft, gd⟩ :: l) fr w :=
 wl_app T hx hn hown.o hy hj hr (by omega) hB (fun A' c' w' h1 h2 h3 h4 => h A' c' w' h1.h_ ⟨h2, RowH.ty hown⟩ h4 h3) ht hg hd hq
theorem wl_litR {ps : Array (Nat × Operand)} {xs : List Operand} {vs : List Value} (T : RowT P t e z sz bytes) (hs : ∀ w, (sizeOf e).run P w = .ok sz w) (hz : ∀ w, (zeroValue e).run P w = .ok z w) (hxs : ps.toList.map Prod.snd = xs) (hps : ps = ((List.range' 0 n).zip xs).toArray) (hx : fr.evs xs = some vs) (hn : vs.length = n) (h1 : ∀ v ∈ vs, v.cells.size = sz) (hm : Nat.ble (n * sz) 1000000 = true)
  (hk : ∀ A w', RowH w' w.heap.size w'.heap.size e sz A n n (vs.flatMap fun v => v.cells.toList) → Below w.heap.size w w' → WL P fn F N ks ops tg.tail l ((d, .slice A n n) :: fr) w')
  (ht : tg.loud = true := by rfl) (hg : onG ops fr gd = true := by rfl) (hd : Nat.blt d N = true := by rfl) : WL P fn F N ks ops tg (⟨some d, .buildSlice t n ps, ty, pos, aft, gd⟩ :: l) fr w := by
 subst hps
 refine wl_litn T hs hz n hx hn h1 hm (fun w' h1 h2 h3 => hk _ w' ⟨h1 _ (Nat.le_refl _), fun k hk => ?_⟩ h2) ht hg hd
 have : w.heap.size = k := by simpa [blk] using hk
 omega
theorem wl_litB {ps : Array (Nat × Operand)} {xs : List Operand} {vs : List Value} (bs : List UInt8) (T : U8 P t) (hs : ∀ w, (sizeOf 5).run P w = .ok 1 w) (hz : ∀ w, (zeroValue 5).run P w = .ok (.int .u8 0) w) (hxs : ps.toList.map Prod.snd = xs) (hx : fr.evs xs = some vs) (hv : vs = B8 bs) (hn : bs.length = n) (hps : ps = ((List.range' 0 n).zip xs).toArray) (hm : Nat.ble bs.length 1000000 = true)
  (hk : ∀ A w', OwnH w' w.heap.size w'.heap.size A n bs → Below w.heap.size w w' → WL P fn F N ks ops tg.tail l ((d, .slice A n n) :: fr) w')
  (ht : tg.loud = true := by rfl) (hg : onG ops fr gd = true := by rfl) (hd : Nat.blt d N = true := by rfl) : WL P fn F N ks ops tg (⟨some d, .buildSlice t n ps, ty, pos, aft, gd⟩ :: l) fr w := by
 subst hps; subst hv; subst hn
 exact wl_lit8 bs T hs hz hx hm (fun w' h1 h2 _ => hk _ w' h1.h_ h2) ht hg hd
end
end
section
variable {P : Program} {fn : Func} {F : Ending → World → Prop} {N : Nat} {ks : List K} {ops : Array Oper} {tg : Tags} {l : List Oper} {fr : Fr} {w : World} {ty : TypeId} {pos : String} {aft : Array Edge} {g : Option (Nat × Bool)} {d : Nat} {x : Operand} {v : Value} {op : Op}
theorem zp (h : ∀ {w : World}, OpV P N fr w op ty v w) (hk : WL P fn F N ks ops tg.tail l ((d, v) :: fr) w) (hg : onG ops fr g = true := by rfl) (hd : Nat.blt d N = true := by rfl) : WL P fn F N ks ops tg (⟨some d, op, ty, pos, aft, g⟩ :: l) fr w := wl_p (fun _ => h) hk hg hd
theorem zm (h : fr.ev x = some v) (hk : WL P fn F N ks ops tg.tail l ((d, v) :: fr) w) (hg : onG ops fr g = true := by rfl) (hd : Nat.blt d N = true := by rfl) : WL P fn F N ks ops tg (⟨some d, .move x, ty, pos, aft, g⟩ :: l) fr w := wl_p (fun _ => o_move h) hk hg hd
theorem za (h : fr.ev x = some v) (hk : WL P fn F N ks ops tg.tail l ((d, v) :: fr) w) (hg : onG ops fr g = true := by rfl) (hd : Nat.blt d N = true := by rfl) : WL P fn F N ks ops tg (⟨some d, .assign x, ty, pos, aft, g⟩ :: l) fr w := wl_p (fun _ => o_assign h) hk hg hd
theorem zs {id : Nat} {y : Code} (h : WL P fn F N (.code y :: ks) l.toArray none l fr w) : RK P fn F N (.code (.seq (.region id l.toArray false) y) :: ks) fr w := rk_seq (rk_region h)
theorem zf {c fb fr' : Fr} (h : RK P fn F N ks fr' w) (e : c ++ fb = fr' := by simp only [List.cons_append, List.nil_append, List.drop_succ_cons, List.drop_zero]; rfl) : RK P fn F N ks (c ++ fb) w := rk_frame e h
theorem zg {c fb fr' : Fr} (h : WL P fn F N ks ops tg l fr' w) (e : c ++ fb = fr' := by simp only [List.cons_append, List.nil_append, List.drop_succ_cons, List.drop_zero]; rfl) : WL P fn F N ks ops tg l (c ++ fb) w := wl_frame e h
end
end Go.Proofs.YtahkeoegbjopfaaGreat
namespace Go.Proofs.YtahkeoegbjopfaaGreat
set_option maxRecDepth 100000
open Go.RowKit
def cmpL : List UInt8 → List UInt8 → Int
 | [], [] => 0
 | [], _ :: _ => -1
 | _ :: _, [] => 1
 | x :: a, y :: b => if x = y then cmpL a b else if x.toNat < y.toNat then -1 else 1
theorem cmpL_self : ∀ a : List UInt8, cmpL a a = 0
 | [] => rfl
 | x :: a => by simp [cmpL, cmpL_self a]
theorem cmpL_neg : ∀ a b : List UInt8, cmpL a b = -cmpL b a
 | [], [] => rfl
 | [], _ :: _ => rfl
 | _ :: _, [] => rfl
 | x :: a, y :: b => by
  by_cases h : x = y
  ·subst h; simp only [cmpL, if_true]; exact cmpL_neg a b
  ·have h2 : y ≠ x := fun e => h e.symm
   have h3 : x.toNat ≠ y.toNat := fun e => h (UInt8.toNat_inj.1 e)
   simp only [cmpL, if_neg h, if_neg h2]
   rcases Nat.lt_or_gt_of_ne h3 with h4 | h4
   ·rw [if_pos h4, if_neg (by omega)]
   ·rw [if_neg (by omega), if_pos h4]; rfl
theorem cmpL_zero : ∀ a b : List UInt8, cmpL a b = 0 ↔ a = b
 | [], [] => by simp [cmpL]
 | [], _ :: _ => by simp [cmpL]
 | _ :: _, [] => by simp [cmpL]
 | x :: a, y :: b => by
  by_cases h : x = y
  ·subst h; simp only [cmpL, if_true, cmpL_zero a b, List.cons.injEq, true_and]
  ·simp only [cmpL, if_neg h, List.cons.injEq, h, false_and, iff_false]
   by_cases h4 : x.toNat < y.toNat <;> simp [h4]
theorem cmpL_trans : ∀ a b c : List UInt8, cmpL a b < 0 → cmpL b c < 0 → cmpL a c < 0
 | [], _, [], h1, h2 => by
  rename_i b
  cases b with
  | nil => simp [cmpL] at h1
  | cons y b => simp [cmpL] at h2
 | [], _, _ :: _, _, _ => by simp [cmpL]
 | _ :: _, [], _, h1, _ => by simp [cmpL] at h1
 | _ :: _, _ :: _, [], _, h2 => by simp [cmpL] at h2
 | x :: a, y :: b, z :: c, h1, h2 => by
  simp only [cmpL] at h1 h2 ⊢
  by_cases h : x = y
  ·subst h
   rw [if_pos rfl] at h1
   by_cases h' : x = z
   ·subst h'; rw [if_pos rfl] at h2 ⊢; exact cmpL_trans a b c h1 h2
   ·rw [if_neg h'] at h2 ⊢; exact h2
  ·rw [if_neg h] at h1
   have h3 : x.toNat < y.toNat := by
    by_cases h3 : x.toNat < y.toNat
    ·exact h3
    ·rw [if_neg h3] at h1; exact absurd h1 (by decide)
   by_cases h' : y = z
   ·subst h'; rw [if_neg h, if_pos h3]; decide
   ·rw [if_neg h'] at h2
    have h4 : y.toNat < z.toNat := by
     by_cases h4 : y.toNat < z.toNat
     ·exact h4
     ·rw [if_neg h4] at h2; exact absurd h2 (by decide)
    have h5 : x ≠ z := fun e => by rw [e] at h3; omega
    rw [if_neg h5, if_pos (by omega)]; decide
section
variable {P : Program} {fn : Func} {F : Ending → World → Prop} {N : Nat} {ks : List K} {ops : Array Oper} {tg : Tags} {l : List Oper} {fr : Fr} {w w0 : World} {ty t t' xt : TypeId} {pos : String} {aft : Array Edge} {gd : Option (Nat × Bool)} {d : Nat} {x y : Operand} {s u : List UInt8}
theorem o_strU {A : Option Addr} {n c : Nat} {src e dst : TypeId} {l : List UInt8} (hs : P.underlying src = some (.slice e)) (he : P.underlying e = some (.int .u8)) (hd : P.underlying dst = some .string) (hx : fr.ev x = some (.slice A n c)) (hr : Rd w0 A l) (hb : Below w0.heap.size w0 w) (hn : n = l.length) :
  OpV P N fr w (.convert src dst x) ty (.string ⟨l.toArray⟩) w := o_str hs he hd hx hn (hr.below hb)
end
theorem Tryz.rowB : RowT Tryz.prog 39 5 (.int .u8 0) 1 1 := ⟨Tryz.underlying39, by kernel_rfl, rfl, by omega⟩
section
variable {fn : Func} {F : Ending → World → Prop} {N : Nat} {ks : List K} {ops : Array Oper} {tg : Tags} {l : List Oper} {fr : Fr} {w : World} {ty : TypeId} {pos : String} {aft : Array Edge} {gd : Option (Nat × Bool)} {d : Nat} {x y : Operand}
end
end Go.Proofs.YtahkeoegbjopfaaGreat
namespace Go.Proofs.YtahkeoegbjopfaaGreat
set_option maxRecDepth 100000
open Go.RowKit
section
variable {P : Program} {fn : Func} {F : Ending → World → Prop} {N : Nat} {ks : List K} {ops : Array Oper} {tg : Tags} {l : List Oper} {fr : Fr} {w : World} {ty ty2 t t' t2 e e2 : TypeId} {z v : Value} {pos pos2 : String} {aft aft2 : Array Edge} {gd gd2 : Option (Nat × Bool)} {d n g i j sz : Nat} {x y : Operand} {a b : UInt64} {k k' : IntKind} {m : Int}
/-! Numbers. -/
theorem u64_lt (a : UInt64) : a.toNat < 18446744073709551616 := a.toNat_lt
theorem o_addU (hx : fr.ev x = some (.int .u64 (a.toNat : Int))) (hy : fr.ev y = some (.int .u64 (b.toNat : Int))) : OpV P N fr w (.binOp .add t x y t') ty (.int .u64 ((a + b).toNat : Int)) w :=
 o_asi (o_addw hx hy) (by rw [IntKind.wrap_u64, UInt64.toNat_add]; omega)
theorem o_mulq {n' : Int} (hx : fr.ev x = some (.int .u64 m)) (hy : fr.ev y = some (.int .u64 n')) (h0 : 0 ≤ m * n') (h1 : m * n' ≤ 18446744073709551615) : OpV P N fr w (.binOp .mul t x y t') ty (.int .u64 (m * n')) w :=
 o_asi (o_mulw hx hy) (u64_in h0 h1)
theorem o_xorU (hx : fr.ev x = some (.int .u64 (a.toNat : Int))) (hy : fr.ev y = some (.int .u64 (b.toNat : Int))) : OpV P N fr w (.binOp .xor t x y t') ty (.int .u64 ((a ^^^ b).toNat : Int)) w :=
 o_asi (o_xor hx hy) (by rw [bits_xor_u64_nat _ _ (u64_lt a) (u64_lt b), UInt64.toNat_xor])
theorem o_andU (hx : fr.ev x = some (.int .u64 (a.toNat : Int))) (hy : fr.ev y = some (.int .u64 (b.toNat : Int))) : OpV P N fr w (.binOp .and t x y t') ty (.int .u64 ((a &&& b).toNat : Int)) w :=
 o_asi (o_and hx hy) (by rw [bits_and_u64_nat _ _ (u64_lt a) (u64_lt b), UInt64.toNat_and])
theorem o_orU (hx : fr.ev x = some (.int .u64 (a.toNat : Int))) (hy : fr.ev y = some (.int .u64 (b.toNat : Int))) : OpV P N fr w (.binOp .or t x y t') ty (.int .u64 ((a ||| b).toNat : Int)) w :=
 o_asi (o_or hx hy) (by rw [bits_or_u64_nat _ _ (u64_lt a) (u64_lt b), UInt64.toNat_or])
theorem o_notU (hx : fr.ev x = some (.int .u64 (a.toNat : Int))) : OpV P N fr w (.unOp .xor t x) ty (.int .u64 ((~~~a).toNat : Int)) w := fun c ha o ho _ => by
 have h := u64_lt a
 have e : bits .xor .u64 18446744073709551615 (a.toNat : Int) = ((~~~a).toNat : Int) := by
  have h1 : (BitVec.ofInt 64 (a.toNat : Int)) = a.toBitVec := by
   rw [BitVec.ofInt_natCast]; apply BitVec.eq_of_toNat_eq; rw [BitVec.toNat_ofNat, Nat.mod_eq_of_lt (by omega)]; rfl
  show IntKind.u64.wrap ((BitVec.ofInt 64 18446744073709551615 ^^^ BitVec.ofInt 64 (a.toNat : Int)).toNat : Int) = _
  rw [h1, show BitVec.ofInt 64 18446744073709551615 = BitVec.allOnes 64 from rfl, BitVec.allOnes_xor, ← UInt64.toBitVec_not]
  show IntKind.u64.wrap (((~~~a).toNat : Nat) : Int) = _
  have := u64_lt (~~~a)
  rw [IntKind.wrap_u64]; omega
 have e2 : (execOp c.eval o).run P w = .ok (.value (.int .u64 (bits .xor .u64 18446744073709551615 (a.toNat : Int)))) w := by
  simp [execOp, ho, ha.ev hx, Op.unary]
  rfl
 rw [e2, e]
def shrU (a : UInt64) (n : Nat) : UInt64 := a >>> UInt64.ofNat n
def shlU (a : UInt64) (n : Nat) : UInt64 := a <<< UInt64.ofNat n
theorem shrU_toNat (a : UInt64) {n : Nat} (h : n < 64) : (shrU a n).toNat = a.toNat / 2 ^ n := by
 unfold shrU
 rw [UInt64.toNat_shiftRight, UInt64.toNat_ofNat_of_lt' (by show n < 18446744073709551616; omega), Nat.mod_eq_of_lt h, Nat.shiftRight_eq_div_pow]
theorem shlU_toNat (a : UInt64) {n : Nat} (h : n < 64) : (shlU a n).toNat = a.toNat * 2 ^ n % 18446744073709551616 := by
 unfold shlU
 rw [UInt64.toNat_shiftLeft, UInt64.toNat_ofNat_of_lt' (by show n < 18446744073709551616; omega), Nat.mod_eq_of_lt h, Nat.shiftLeft_eq]
theorem o_shrU (hx : fr.ev x = some (.int .u64 (a.toNat : Int))) (hy : fr.ev y = some (.int k' m)) (h0 : 0 ≤ m) (h1 : m < 64) : OpV P N fr w (.binOp .shr t x y t') ty (.int .u64 ((shrU a m.toNat).toNat : Int)) w :=
 o_asi (o_shr hx hy h0) (by
  rw [shrU_toNat a (by omega), show min m.toNat IntKind.u64.bits = m.toNat by show min m.toNat 64 = _; omega]
  simp)
theorem o_shlU (hx : fr.ev x = some (.int .u64 (a.toNat : Int))) (hy : fr.ev y = some (.int k' m)) (h0 : 0 ≤ m) (h1 : m < 64) : OpV P N fr w (.binOp .shl t x y t') ty (.int .u64 ((shlU a m.toNat).toNat : Int)) w :=
 o_asi (o_shl hx hy h0) (by
  rw [shlU_toNat a (by omega), show min m.toNat IntKind.u64.bits = m.toNat by show min m.toNat 64 = _; omega, IntKind.wrap_u64]
  simp)
theorem o_conv8U {c : UInt8} {dd : TypeDesc} {src dst : TypeId} (hs : P.underlying src = some dd) (hd : P.underlying dst = some (.int .u64)) (hx : fr.ev x = some (.int .u8 (c.toNat : Int))) : OpV P N fr w (.convert src dst x) ty (.int .u64 (c.toUInt64.toNat : Int)) w :=
 o_asi (o_convi hs hd hx) (by have := c.toNat_lt; rw [IntKind.wrap_u64, UInt8.toNat_toUInt64]; omega)
theorem o_convU8 {dd : TypeDesc} {src dst : TypeId} (hs : P.underlying src = some dd) (hd : P.underlying dst = some (.int .u8)) (hx : fr.ev x = some (.int .u64 (a.toNat : Int))) : OpV P N fr w (.convert src dst x) ty (.int .u8 (a.toUInt8.toNat : Int)) w :=
 o_asi (o_convi hs hd hx) (by rw [UInt64.toNat_toUInt8]; show (a.toNat : Int) % 256 = _; omega)

/-! Arrays. -/
def vU (l : List UInt64) : List Value := l.map fun x => .int .u64 (x.toNat : Int)
theorem vU_length (l : List UInt64) : (vU l).length = l.length := List.length_map ..
theorem vU_one (l : List UInt64) : ∀ v ∈ vU l, v.oneCell' = true := fun v h => by
 obtain ⟨x, _, rfl⟩ := List.mem_map.1 h; rfl
theorem vU_set (l : List UInt64) (i : Nat) (a : UInt64) : (vU l).set i (.int .u64 (a.toNat : Int)) = vU (l.set i a) := by
 unfold vU; rw [List.map_set]
theorem o_iaddrP (j : Nat) (hu : P.underlying t = some (.array n e)) (hs : ∀ w, (sizeOf e).run P w = .ok 1 w) (hx : fr.ev x = some (.pointer (some ⟨g, 0, none⟩))) (hy : fr.ev y = some (.int k m)) (hm : m = (j : Int)) (hj : j < n) :
  OpV P N fr w (.indexAddr t x y) ty (.pointer (some ⟨g, j, none⟩)) w := fun a ha op hop _ => by
 subst hm
 have h2 : ¬ n ≤ j := by omega
 simp [execOp, hop, ha.ev hx, ha.ev hy, Instr.indexAt, run_underlying hu, asIntOf, hs, add_plain, Instr.sureAddr, h2]
theorem o_ldU {l : List UInt64} (ha' : ∀ w, (isAgg t).run P w = .ok false w) (hx : fr.ev x = some (.pointer (some ⟨g, i, none⟩))) (hB : Blk w g t' (vU l)) (hi : i < l.length) : OpV P N fr w (.load t x) ty (.int .u64 (l[i].toNat : Int)) w :=
 o_loadb ha' hx hB (by unfold vU; rw [List.getElem?_map, List.getElem?_eq_getElem hi]; rfl)
theorem o_ldUa {l : List UInt64} (ha' : ∀ w, (isAgg t).run P w = .ok true w) (hs : ∀ w, (sizeOf t).run P w = .ok n w) (hx : fr.ev x = some (.pointer (some ⟨g, 0, none⟩))) (hB : Blk w g t' (vU l)) (hn : l.length = n) : OpV P N fr w (.load t x) ty (.agg (vU l).toArray) w :=
 o_load_all ha' hs hx hB (by rw [vU_length, hn])
theorem o_ldB {l : List UInt8} (ha' : ∀ w, (isAgg t).run P w = .ok false w) (hx : fr.ev x = some (.pointer (some ⟨g, i, none⟩))) (hB : Blk w g t' (B8 l)) (hi : i < l.length) : OpV P N fr w (.load t x) ty (.int .u8 (l[i].toNat : Int)) w :=
 o_loadb ha' hx hB (by unfold B8; simp [hi])
theorem o_ldBa {l : List UInt8} (ha' : ∀ w, (isAgg t).run P w = .ok true w) (hs : ∀ w, (sizeOf t).run P w = .ok n w) (hx : fr.ev x = some (.pointer (some ⟨g, 0, none⟩))) (hB : Blk w g t' (B8 l)) (hn : l.length = n) : OpV P N fr w (.load t x) ty (.agg (B8 l).toArray) w :=
 o_load_all ha' hs hx hB (by rw [B8_length, hn])
theorem wl_stU {c : List UInt64} (hs : ∀ w, (sizeOf t).run P w = .ok 1 w) (hx : fr.ev x = some (.pointer (some ⟨g, i, none⟩))) (hB : Blk w g t' (vU c)) (hy : fr.ev y = some (.int .u64 (a.toNat : Int))) (hi : i < c.length)
  (hk : ∀ w', Blk w' g t' (vU (c.set i a)) → Grew w w' t' (some g) → w'.heap.size = w.heap.size → WL P fn F N ks ops tg.tail l fr w') (ht : tg.loud = true := by rfl) (hg : onG ops fr gd = true := by rfl) (hq : tg.calm = false ∨ tg.rw.may (some g) := by exact .inl rfl) :
  WL P fn F N ks ops tg (⟨none, .store t x y, ty, pos, aft, gd⟩ :: l) fr w :=
 wl_storeg1 hs hx hy rfl hB (by rw [vU_length]; exact hi) (fun w' h1 h2 h3 => hk w' (by rw [vU_set] at h1; exact h1) h2 h3) ht hg hq
theorem wl_stUa {c q : List UInt64} (hs : ∀ w, (sizeOf t).run P w = .ok n w) (hx : fr.ev x = some (.pointer (some ⟨g, 0, none⟩))) (hB : Blk w g t' (vU c)) (hy : fr.ev y = some (.agg (vU q).toArray)) (hq' : q.length = n) (hi : c.length = n)
  (hk : ∀ w', Blk w' g t' (vU q) → Grew w w' t' (some g) → w'.heap.size = w.heap.size → WL P fn F N ks ops tg.tail l fr w') (ht : tg.loud = true := by rfl) (hg : onG ops fr gd = true := by rfl) (hq : tg.calm = false ∨ tg.rw.may (some g) := by exact .inl rfl) :
  WL P fn F N ks ops tg (⟨none, .store t x y, ty, pos, aft, gd⟩ :: l) fr w :=
 wl_storega hs hx hy (by rw [vU_length, hq']) (vU_one q) hB (by rw [vU_length, hi]) hk ht hg hq
theorem wl_stB {c : List UInt8} {u : UInt8} (hs : ∀ w, (sizeOf t).run P w = .ok 1 w) (hx : fr.ev x = some (.pointer (some ⟨g, i, none⟩))) (hB : Blk w g t' (B8 c)) (hy : fr.ev y = some (.int .u8 (u.toNat : Int))) (hi : i < c.length)
  (hk : ∀ w', Blk w' g t' (B8 (c.set i u)) → Grew w w' t' (some g) → w'.heap.size = w.heap.size → WL P fn F N ks ops tg.tail l fr w') (ht : tg.loud = true := by rfl) (hg : onG ops fr gd = true := by rfl) (hq : tg.calm = false ∨ tg.rw.may (some g) := by exact .inl rfl) :
  WL P fn F N ks ops tg (⟨none, .store t x y, ty, pos, aft, gd⟩ :: l) fr w :=
 wl_storeg1 hs hx hy rfl hB (by rw [B8_length]; exact hi) (fun w' h1 h2 h3 => hk w' (by unfold B8 at h1 ⊢; rw [List.map_set]; exact h1) h2 h3) ht hg hq
theorem wl_stBa {c q : List UInt8} (hs : ∀ w, (sizeOf t).run P w = .ok n w) (hx : fr.ev x = some (.pointer (some ⟨g, 0, none⟩))) (hB : Blk w g t' (B8 c)) (hy : fr.ev y = some (.agg (B8 q).toArray)) (hq' : q.length = n) (hi : c.length = n)
  (hk : ∀ w', Blk w' g t' (B8 q) → Grew w w' t' (some g) → w'.heap.size = w.heap.size → WL P fn F N ks ops tg.tail l fr w') (ht : tg.loud = true := by rfl) (hg : onG ops fr gd = true := by rfl) (hq : tg.calm = false ∨ tg.rw.may (some g) := by exact .inl rfl) :
  WL P fn F N ks ops tg (⟨none, .store t x y, ty, pos, aft, gd⟩ :: l) fr w :=
 wl_storega hs hx hy (by rw [B8_length, hq']) (B8_oneCell' q) hB (by rw [B8_length, hi]) hk ht hg hq
theorem wl_allocstU {q : List UInt64} (hu : P.underlying e = some (.array n e2)) (hz : ∀ w, (zeroValue e).run P w = .ok z w) (hzs : z.cells = (vU (List.replicate n 0)).toArray) (hs : ∀ w, (sizeOf t).run P w = .ok n w) (hy : ∀ u, Fr.ev ((d, u) :: fr) y = some (.agg (vU q).toArray)) (hn : q.length = n)
  (hk : ∀ g w', Blk w' g e (vU q) → Below w.heap.size w w' → w.heap.size ≤ g → g < w'.heap.size → WL P fn F N ks ops tg.tail.tail l ((d, .pointer (some ⟨g, 0, none⟩)) :: fr) w')
  (ht : tg.loud = true := by rfl) (ht2 : tg.tail.loud = true := by rfl) (hg : onG ops fr gd = true := by rfl) (hg2 : ∀ u, onG ops ((d, u) :: fr) gd2 = true := by intro _; rfl) (hd : Nat.blt d N = true := by rfl) (hq : tg.tail.calm = false := by rfl) :
  WL P fn F N ks ops tg (⟨some d, .alloc e, ty, pos, aft, gd⟩ :: ⟨none, .store t (.tmp d) y, ty2, pos2, aft2, gd2⟩ :: l) fr w :=
 wl_allocstn hz _ _ hzs hs hy (by rw [vU_length, List.length_replicate]) (by rw [vU_length, hn]) (vU_one q) hk ht ht2 hg hg2 hd hq
theorem wl_allocU (hu : P.underlying e = some (.array n e2)) (hz : ∀ w, (zeroValue e).run P w = .ok z w) (hzs : z.cells = (vU (List.replicate n 0)).toArray)
  (hk : ∀ g w', Blk w' g e (vU (List.replicate n 0)) → Below w.heap.size w w' → w.heap.size ≤ g → g < w'.heap.size → WL P fn F N ks ops tg.tail l ((d, .pointer (some ⟨g, 0, none⟩)) :: fr) w')
  (ht : tg.loud = true := by rfl) (hg : onG ops fr gd = true := by rfl) (hd : Nat.blt d N = true := by rfl) : WL P fn F N ks ops tg (⟨some d, .alloc e, ty, pos, aft, gd⟩ :: l) fr w :=
 wl_allocg _ hz hzs hk ht hg hd
theorem wl_allocB (hu : P.underlying e = some (.array n e2)) (hz : ∀ w, (zeroValue e).run P w = .ok z w) (hzs : z.cells = (B8 (List.replicate n 0)).toArray)
  (hk : ∀ g w', Blk w' g e (B8 (List.replicate n 0)) → Below w.heap.size w w' → w.heap.size ≤ g → g < w'.heap.size → WL P fn F N ks ops tg.tail l ((d, .pointer (some ⟨g, 0, none⟩)) :: fr) w')
  (ht : tg.loud = true := by rfl) (hg : onG ops fr gd = true := by rfl) (hd : Nat.blt d N = true := by rfl) : WL P fn F N ks ops tg (⟨some d, .alloc e, ty, pos, aft, gd⟩ :: l) fr w :=
 wl_allocg _ hz hzs hk ht hg hd
theorem o_indexB {c : List UInt8} (j : Nat) (hu : P.underlying t = some (.array n e)) (hs : ∀ w, (sizeOf e).run P w = .ok 1 w) (ha' : ∀ w, (isAgg e).run P w = .ok false w) (hx : fr.ev x = some (.agg (B8 c).toArray)) (hy : fr.ev y = some (.int k m)) (hm : m = (j : Int)) (hj : j < c.length) (hn : c.length = n) :
  OpV P N fr w (.index t x y) ty (.int .u8 (c[j].toNat : Int)) w := fun a ha op hop _ => by
 subst hm
 have h2 : ¬ n ≤ j := by omega
 simp [execOp, hop, ha.ev hx, ha.ev hy, Instr.index, run_underlying hu, asIntOf, hs, _root_.Go.part, ha', h2, B8, hj]
theorem o_buildU {ps : Array (Nat × Operand)} {is : List Nat} {xs : List Operand} {vs : List Value} (c : List UInt64) (hu : P.underlying t = some (.array n e)) (his : ps.toList.map Prod.fst = is) (hxs : ps.toList.map Prod.snd = xs) (hx : fr.evs xs = some vs) (hv : vs = c.map fun x => Value.int .u64 (x.toNat : Int)) (hn : c.length = n)
  (hps : ps = (is.zip xs).toArray) (hr : ∀ w, (Instr.build t (is.zip vs).toArray).run P w = .ok (.agg (vU c).toArray) w) : OpV P N fr w (.build t ps) ty (.agg (vU c).toArray) w := by
 subst hps
 exact o_build hx hr
end
end Go.Proofs.YtahkeoegbjopfaaGreat
namespace Go.Proofs.YtahkeoegbjopfaaGreat
set_option maxRecDepth 100000
open Go.RowKit
def wrI (x : Int) : Int := IntKind.i64.wrap x
def lo8 (x : Int) : UInt8 := UInt8.ofNat (x % 256).toNat
theorem lo8_toNat (x : Int) : ((lo8 x).toNat : Int) = x % 256 := by
 unfold lo8
 rw [UInt8.toNat_ofNat_of_lt' (by show _ < 256; omega)]
 omega
theorem wrap_u8 (x : Int) : IntKind.u8.wrap x = ((lo8 x).toNat : Int) := by
 rw [lo8_toNat]; rfl
theorem lo8_of {x : Int} (h0 : 0 ≤ x) (h1 : x < 256) : ((lo8 x).toNat : Int) = x := by
 rw [lo8_toNat]; omega
theorem lo8_nat {q : Nat} (h : q < 256) : ((lo8 (q : Int)).toNat : Int) = q := lo8_of (Int.natCast_nonneg q) (by omega)
section
variable {P : Program} {fn : Func} {F : Ending → World → Prop} {N : Nat} {ks : List K} {ops : Array Oper} {tg : Tags} {l : List Oper} {fr : Fr} {w : World} {ty ty2 t t' t2 e e2 : TypeId} {z v : Value} {pos pos2 : String} {aft aft2 : Array Edge} {gd gd2 : Option (Nat × Bool)} {d n g i j sz : Nat} {x y : Operand} {a b : UInt8} {k k' : IntKind} {m m' : Int}
/-! Numbers of 64 bits. -/
theorem o_addI (hx : fr.ev x = some (.int .i64 m)) (hy : fr.ev y = some (.int .i64 m')) : OpV P N fr w (.binOp .add t x y t') ty (.int .i64 (wrI (m + m'))) w := o_addw hx hy
theorem o_subI (hx : fr.ev x = some (.int .i64 m)) (hy : fr.ev y = some (.int .i64 m')) : OpV P N fr w (.binOp .sub t x y t') ty (.int .i64 (wrI (m - m'))) w := o_subw hx hy
theorem o_mulI (hx : fr.ev x = some (.int .i64 m)) (hy : fr.ev y = some (.int .i64 m')) : OpV P N fr w (.binOp .mul t x y t') ty (.int .i64 (wrI (m * m'))) w := o_mulw hx hy
theorem o_shlI (s : Nat) (hx : fr.ev x = some (.int .i64 m)) (hy : fr.ev y = some (.int k' m')) (hm : m' = (s : Int)) (h1 : s < 64) : OpV P N fr w (.binOp .shl t x y t') ty (.int .i64 (wrI (m * 2 ^ s))) w := by
 subst hm
 exact o_asi (o_shl hx hy (by omega)) (by rw [show min (s : Int).toNat IntKind.i64.bits = s by show min (s : Int).toNat 64 = _; omega]; rfl)
theorem o_shrI (s : Nat) (hx : fr.ev x = some (.int .i64 m)) (hy : fr.ev y = some (.int k' m')) (hm : m' = (s : Int)) (h1 : s < 64) : OpV P N fr w (.binOp .shr t x y t') ty (.int .i64 (m / 2 ^ s)) w := by
 subst hm
 exact o_asi (o_shr hx hy (by omega)) (by rw [show min (s : Int).toNat IntKind.i64.bits = s by show min (s : Int).toNat 64 = _; omega])
theorem o_shrQ (s : Nat) (hx : fr.ev x = some (.int .u64 m)) (hy : fr.ev y = some (.int k' m')) (hm : m' = (s : Int)) (h1 : s < 64) : OpV P N fr w (.binOp .shr t x y t') ty (.int .u64 (m / 2 ^ s)) w := by
 subst hm
 exact o_asi (o_shr hx hy (by omega)) (by rw [show min (s : Int).toNat IntKind.u64.bits = s by show min (s : Int).toNat 64 = _; omega])
theorem o_quoI (hx : fr.ev x = some (.int .i64 m)) (hy : fr.ev y = some (.int .i64 m')) (h : m' ≠ 0) : OpV P N fr w (.binOp .quo t x y t') ty (.int .i64 (wrI (m.tdiv m'))) w := o_bin hx hy eqg_int (by
 rw [binOp_quo]
 simp [Op.intDiv, h, wrI])
/-! Bytes. -/
theorem o_add8 (hx : fr.ev x = some (.int .u8 m)) (hy : fr.ev y = some (.int .u8 m')) : OpV P N fr w (.binOp .add t x y t') ty (.int .u8 ((lo8 (m + m')).toNat : Int)) w := o_asi (o_addw hx hy) (wrap_u8 _)
theorem o_sub8 (hx : fr.ev x = some (.int .u8 m)) (hy : fr.ev y = some (.int .u8 m')) : OpV P N fr w (.binOp .sub t x y t') ty (.int .u8 ((lo8 (m - m')).toNat : Int)) w := o_asi (o_subw hx hy) (wrap_u8 _)
theorem o_shl8 (s : Nat) (hx : fr.ev x = some (.int .u8 m)) (hy : fr.ev y = some (.int k' m')) (hm : m' = (s : Int)) (h1 : s ≤ 8) : OpV P N fr w (.binOp .shl t x y t') ty (.int .u8 ((lo8 (m * 2 ^ s)).toNat : Int)) w := by
 subst hm
 exact o_asi (o_shl hx hy (by omega)) (by rw [show min (s : Int).toNat IntKind.u8.bits = s by show min (s : Int).toNat 8 = _; omega, wrap_u8])
theorem o_shr8 (s : Nat) (hx : fr.ev x = some (.int .u8 (a.toNat : Int))) (hy : fr.ev y = some (.int k' m')) (hm : m' = (s : Int)) (h1 : s ≤ 8) : OpV P N fr w (.binOp .shr t x y t') ty (.int .u8 ((lo8 ((a.toNat / 2 ^ s : Nat) : Int)).toNat : Int)) w := by
 subst hm
 have ha := a.toNat_lt
 refine o_asi (o_shr hx hy (by omega)) ?_
 have hd : a.toNat / 2 ^ s ≤ a.toNat := Nat.div_le_self _ _
 rw [show min (s : Int).toNat IntKind.u8.bits = s by show min (s : Int).toNat 8 = _; omega, lo8_nat (by omega)]
 simp
theorem o_rem8 (q : Nat) (hx : fr.ev x = some (.int .u8 (a.toNat : Int))) (hy : fr.ev y = some (.int .u8 m')) (hm : m' = (q : Int)) (h : 0 < q) : OpV P N fr w (.binOp .rem t x y t') ty (.int .u8 ((lo8 ((a.toNat % q : Nat) : Int)).toNat : Int)) w := by
 subst hm
 have ha := a.toNat_lt
 have hd : a.toNat % q ≤ a.toNat := Nat.mod_le _ _
 exact o_asi (o_remu hx hy (by omega) (by omega)) (by rw [lo8_nat (by omega)]; simp)
theorem o_quo8 (q : Nat) (hx : fr.ev x = some (.int .u8 (a.toNat : Int))) (hy : fr.ev y = some (.int .u8 m')) (hm : m' = (q : Int)) (h : 0 < q) : OpV P N fr w (.binOp .quo t x y t') ty (.int .u8 ((lo8 ((a.toNat / q : Nat) : Int)).toNat : Int)) w := by
 subst hm
 have ha := a.toNat_lt
 have hd : a.toNat / q ≤ a.toNat := Nat.div_le_self _ _
 refine o_asi (o_bin hx hy eqg_int ?_ : OpV P N fr w _ ty (.int .u8 ((a.toNat / q : Nat) : Int)) w) (lo8_nat (by omega)).symm
 rw [binOp_quo]
 have hne : ¬q = 0 := by omega
 have e : (a.toNat : Int).tdiv q = ((a.toNat / q : Nat) : Int) := by rw [Int.tdiv_eq_ediv_of_nonneg (by omega)]; simp
 have e2 : IntKind.u8.wrap ((a.toNat / q : Nat) : Int) = ((a.toNat / q : Nat) : Int) := by rw [wrap_u8, lo8_nat (by omega)]
 simp only [Op.intDiv, Int.natCast_eq_zero, hne, if_false, e, e2]
 rfl
theorem o_convI8 {dd : TypeDesc} {src dst : TypeId} (hs : P.underlying src = some dd) (hd : P.underlying dst = some (.int .u8)) (hx : fr.ev x = some (.int .i64 m)) : OpV P N fr w (.convert src dst x) ty (.int .u8 ((lo8 m).toNat : Int)) w :=
 o_asi (o_convi hs hd hx) (wrap_u8 _)
theorem o_conv64 {dd : TypeDesc} {src dst : TypeId} (hs : P.underlying src = some dd) (hd : P.underlying dst = some (.int .u8)) (hx : fr.ev x = some (.int .u64 m)) : OpV P N fr w (.convert src dst x) ty (.int .u8 ((lo8 m).toNat : Int)) w :=
 o_asi (o_convi hs hd hx) (wrap_u8 _)
theorem o_conv8I {dd : TypeDesc} {src dst : TypeId} (hs : P.underlying src = some dd) (hd : P.underlying dst = some (.int .i64)) (hx : fr.ev x = some (.int .u8 (a.toNat : Int))) : OpV P N fr w (.convert src dst x) ty (.int .i64 (a.toNat : Int)) w :=
 have ha := a.toNat_lt
 o_convi64 hs hd hx (by omega) (by omega)
/-! Arrays of numbers of 64 bits. -/
def vI (l : List Int) : List Value := l.map fun x => .int .i64 x
theorem vI_length (l : List Int) : (vI l).length = l.length := List.length_map ..
theorem vI_one (l : List Int) : ∀ v ∈ vI l, v.oneCell' = true := fun v h => by
 obtain ⟨x, _, rfl⟩ := List.mem_map.1 h; rfl
theorem vI_set (l : List Int) (i : Nat) (a : Int) : (vI l).set i (.int .i64 a) = vI (l.set i a) := by
 unfold vI; rw [List.map_set]
theorem getD_of {α : Type} {l : List α} {i : Nat} {z : α} (h : i < l.length) : l[i]? = some (l.getD i z) := by
 rw [List.getD_eq_getElem?_getD, List.getElem?_eq_getElem h]; rfl
theorem o_ldI {l : List Int} (ha' : ∀ w, (isAgg t).run P w = .ok false w) (hx : fr.ev x = some (.pointer (some ⟨g, i, none⟩))) (hB : Blk w g t' (vI l)) (hi : i < l.length) : OpV P N fr w (.load t x) ty (.int .i64 (l.getD i 0)) w :=
 o_loadb ha' hx hB (by unfold vI; rw [List.getElem?_map, getD_of (z := 0) hi]; rfl)
theorem o_ldD {l : List UInt8} (ha' : ∀ w, (isAgg t).run P w = .ok false w) (hx : fr.ev x = some (.pointer (some ⟨g, i, none⟩))) (hB : Blk w g t' (B8 l)) (hi : i < l.length) : OpV P N fr w (.load t x) ty (.int .u8 ((l.getD i 0).toNat : Int)) w :=
 o_loadb ha' hx hB (by unfold B8; rw [List.getElem?_map, getD_of (z := 0) hi]; rfl)
theorem wl_stI {c : List Int} (hs : ∀ w, (sizeOf t).run P w = .ok 1 w) (hx : fr.ev x = some (.pointer (some ⟨g, i, none⟩))) (hB : Blk w g t' (vI c)) (hy : fr.ev y = some (.int .i64 m)) (hi : i < c.length)
  (hk : ∀ w', Blk w' g t' (vI (c.set i m)) → Grew w w' t' (some g) → w'.heap.size = w.heap.size → WL P fn F N ks ops tg.tail l fr w') (ht : tg.loud = true := by rfl) (hg : onG ops fr gd = true := by rfl) (hq : tg.calm = false ∨ tg.rw.may (some g) := by exact .inl rfl) :
  WL P fn F N ks ops tg (⟨none, .store t x y, ty, pos, aft, gd⟩ :: l) fr w :=
 wl_storeg1 hs hx hy rfl hB (by rw [vI_length]; exact hi) (fun w' h1 h2 h3 => hk w' (by rw [vI_set] at h1; exact h1) h2 h3) ht hg hq
theorem wl_stIa {c q : List Int} (hs : ∀ w, (sizeOf t).run P w = .ok n w) (hx : fr.ev x = some (.pointer (some ⟨g, 0, none⟩))) (hB : Blk w g t' (vI c)) (hy : fr.ev y = some (.agg (vI q).toArray)) (hq' : q.length = n) (hi : c.length = n)
  (hk : ∀ w', Blk w' g t' (vI q) → Grew w w' t' (some g) → w'.heap.size = w.heap.size → WL P fn F N ks ops tg.tail l fr w') (ht : tg.loud = true := by rfl) (hg : onG ops fr gd = true := by rfl) (hq : tg.calm = false ∨ tg.rw.may (some g) := by exact .inl rfl) :
  WL P fn F N ks ops tg (⟨none, .store t x y, ty, pos, aft, gd⟩ :: l) fr w :=
 wl_storega hs hx hy (by rw [vI_length, hq']) (vI_one q) hB (by rw [vI_length, hi]) hk ht hg hq
theorem o_indexD {c : List UInt8} (j : Nat) (hu : P.underlying t = some (.array n e)) (hs : ∀ w, (sizeOf e).run P w = .ok 1 w) (ha' : ∀ w, (isAgg e).run P w = .ok false w) (hx : fr.ev x = some (.agg (B8 c).toArray)) (hy : fr.ev y = some (.int k m)) (hm : m = (j : Int)) (hj : j < c.length) (hn : c.length = n) :
  OpV P N fr w (.index t x y) ty (.int .u8 ((c.getD j 0).toNat : Int)) w := by
 have h3 : c.getD j 0 = c[j] := by rw [List.getD_eq_getElem?_getD, List.getElem?_eq_getElem hj]; rfl
 rw [h3]
 exact o_indexB j hu hs ha' hx hy hm hj hn
end
end Go.Proofs.YtahkeoegbjopfaaGreat
namespace Go.Proofs.YtahkeoegbjopfaaGreat
set_option maxRecDepth 100000
open Go.RowKit
abbrev W10 := { l : List Int // l.length = 10 }
abbrev N32 := { l : List UInt8 // l.length = 32 }
def W10.put (w : W10) (i : Nat) (x : Int) : W10 := ⟨w.1.set i x, by rw [List.length_set]; exact w.2⟩
def W10.at (w : W10) (i : Nat) : Int := w.1.getD i 0
def N32.put (a : N32) (i : Nat) (x : UInt8) : N32 := ⟨a.1.set i x, by rw [List.length_set]; exact a.2⟩
def N32.at (a : N32) (i : Nat) : UInt8 := a.1.getD i 0
def w10z : W10 := ⟨List.replicate 10 0, List.length_replicate⟩
def n32z : N32 := ⟨List.replicate 32 0, List.length_replicate⟩
def foldN {α : Type} (f : α → Nat → α) : Nat → α → α
 | 0, s => s
 | n + 1, s => f (foldN f n s) n
def bt (i : Nat) : Nat := if i % 2 = 0 then 26 else 25
theorem bt_le (i : Nat) : bt i ≤ 26 := by unfold bt; split <;> omega
def crS (w : W10) (i : Nat) : W10 :=
 if i = 9 then (w.put i (wrI (w.at i - wrI (w.at i / 2 ^ bt i * 2 ^ bt i)))).put 0 (wrI ((w.put i (wrI (w.at i - wrI (w.at i / 2 ^ bt i * 2 ^ bt i)))).at 0 + wrI (19 * (w.at i / 2 ^ bt i))))
 else (w.put i (wrI (w.at i - wrI (w.at i / 2 ^ bt i * 2 ^ bt i)))).put (i + 1) (wrI ((w.put i (wrI (w.at i - wrI (w.at i / 2 ^ bt i * 2 ^ bt i)))).at (i + 1) + w.at i / 2 ^ bt i))
def carryS (w : W10) : W10 := foldN crS 10 w
def bit8 (x : UInt8) (s : Nat) : Prop := (((lo8 ((x.toNat / 2 ^ s : Nat) : Int)).toNat : Int).tmod 2) = 1
instance (x : UInt8) (s : Nat) : Decidable (bit8 x s) := inferInstanceAs (Decidable (_ = _))
def opI (a : N32) (i : Nat) (w : W10) (k : Nat) : W10 := if bit8 (a.at (((51 * i + 1) / 2 + k) / 8)) (((51 * i + 1) / 2 + k) % 8) then w.put i (wrI (w.at i + wrI (1 * 2 ^ k))) else w
def opO (a : N32) (w : W10) (i : Nat) : W10 := foldN (opI a i) (if i = 9 then 26 else bt i) w
def openS (a : N32) : W10 := carryS (foldN (opO a) 10 w10z)
def clI (w : W10) (i : Nat) (o : N32) (k : Nat) : N32 := if (w.at i / 2 ^ k).tmod 2 = 1 then o.put (((51 * i + 1) / 2 + k) / 8) (lo8 (((o.at (((51 * i + 1) / 2 + k) / 8)).toNat : Int) + ((lo8 (1 * 2 ^ (((51 * i + 1) / 2 + k) % 8))).toNat : Int))) else o
def clO (w : W10) (o : N32) (i : Nat) : N32 := foldN (clI w i) (bt i) o
def clE (o : N32) : N32 := if ((o.at 0).toNat : Int) < 237 ∨ ¬((o.at 31).toNat : Int) = 127 then o else if ∀ i, i < 31 → 1 ≤ i → ((o.at i).toNat : Int) = 255 then n32z.put 0 (lo8 (((o.at 0).toNat : Int) - 237)) else o
def closeS (w : W10) : N32 := clE (foldN (clO (carryS (carryS (carryS (carryS w))))) 10 n32z)
theorem vI10 {X : W10} : (vI X.1).length = 10 := by rw [vI_length]; exact X.2
theorem b32 {X : N32} : (B8 X.1).length = 32 := by rw [B8_length]; exact X.2
end Go.Proofs.YtahkeoegbjopfaaGreat
namespace Go.Proofs.YtahkeoegbjopfaaGreat
set_option maxRecDepth 100000
open Go.RowKit
def plI (y x : W10) (i : Nat) : W10 := x.put i (wrI (x.at i + y.at i))
def plusS (x y : W10) : W10 := carryS (foldN (plI y) 10 x)
def mnP (i : Nat) : Int := if i = 0 then wrI (wrI (wrI (1 * 2 ^ bt i) - 1) - 18) else wrI (wrI (1 * 2 ^ bt i) - 1)
def mnI (y x : W10) (i : Nat) : W10 := x.put i (wrI (wrI (x.at i + wrI (4 * mnP i)) - y.at i))
def minusS (x y : W10) : W10 := carryS (foldN (mnI y) 10 x)
def tm1 (x y : W10) (i k : Nat) : Int := if i % 2 = 1 ∧ k % 2 = 1 then wrI (2 * wrI (x.at i * y.at k)) else wrI (x.at i * y.at k)
def tm2 (x y : W10) (i k : Nat) : Int := if 9 < i + k then wrI (19 * tm1 x y i k) else tm1 x y i k
def tmI (x y : W10) (i : Nat) (o : W10) (k : Nat) : W10 := o.put ((i + k) % 10) (wrI (o.at ((i + k) % 10) + tm2 x y i k))
def tmO (x y o : W10) (i : Nat) : W10 := foldN (tmI x y i) 10 o
def timesS (x y : W10) : W10 := carryS (carryS (foldN (tmO x y) 10 w10z))
def w10one : W10 := ⟨[1, 0, 0, 0, 0, 0, 0, 0, 0, 0], rfl⟩
def pwI (x : W10) (e : N32) (o : W10) (j : Nat) : W10 := if bit8 (e.at ((255 - j) / 8)) ((255 - j) % 8) then timesS (timesS o o) x else timesS o o
def powerS (x : W10) (e : N32) : W10 := foldN (pwI x e) 256 w10one
def ofI (z : Int) (o : N32) (i : Nat) : N32 := o.put i (lo8 (z / 2 ^ (8 * i)))
def ofS (z : Int) : N32 := foldN (ofI z) 8 n32z
end Go.Proofs.YtahkeoegbjopfaaGreat
namespace Go.Proofs.YtahkeoegbjopfaaGreat
set_option maxRecDepth 100000
open Go.RowKit
def restS (a : N32) : N32 := closeS (openS a)
def subS (a b : N32) : N32 := closeS (minusS (openS a) (openS b))
def negS (a : N32) : N32 := subS n32z a
def mulS (a b : N32) : N32 := closeS (timesS (openS a) (openS b))
def powS (a e : N32) : N32 := closeS (powerS (openS a) e)
def shA (o : N32) (i : Nat) : N32 := o.put i 255
def sh0 (n : Int) : N32 := ((foldN shA 32 n32z).put 0 (lo8 (237 - n))).put 31 127
def shP (p : N32) (i : Nat) : N32 := p.put i (lo8 (((p.at i).toNat / 2 : Nat) : Int))
def shI (p : N32) (i : Nat) : N32 := if i < 31 ∧ ((lo8 ((((shP p i).at (i + 1)).toNat % 2 : Nat) : Int)).toNat : Int) = 1 then (shP p i).put i (lo8 ((((shP p i).at i).toNat : Int) + 128)) else shP p i
def shO (p : N32) (_ : Nat) : N32 := foldN shI 32 p
def shiftedS (n : Int) (k : Nat) : N32 := foldN shO k (sh0 n)
def invS (a : N32) : N32 := powS a (shiftedS 2 0)
def oddS (a : N32) : Prop := ((lo8 ((((restS a).at 0).toNat % 2 : Nat) : Int)).toNat : Int) = 1
instance (a : N32) : Decidable (oddS a) := inferInstanceAs (Decidable (_ = _))
def sameS (a b : N32) : Prop := restS a = restS b
instance (a b : N32) : Decidable (sameS a b) := inferInstanceAs (Decidable (_ = _))
def rtA (a : N32) : N32 := mulS (powS a (shiftedS 5 3)) a
def rtB (a x : N32) : N32 := if sameS (mulS x x) a then x else mulS x (powS (ofS 2) (shiftedS 1 2))
def rtC (a x : N32) : N32 × Bool := if sameS (mulS x x) a then (if oddS x then negS x else x, true) else (n32z, false)
def rootS (a : N32) : N32 × Bool := rtC a (rtB a (rtA a))
end Go.Proofs.YtahkeoegbjopfaaGreat
namespace Go.Proofs.YtahkeoegbjopfaaGreat
set_option maxRecDepth 100000
open Go.RowKit
theorem C_f3bits {z : Int} {i : Nat} (w : World) (hz : z = (i : Int)) (hi : i ≤ 100) :
  CallsR Tryz.prog 174 [.int .i64 z] w fun v w' => v = .int .u64 (bt i : Int) ∧ Below w.heap.size w w' := by
 subst hz
 have hw := Below.refl w.heap.size w
 refine callsR Tryz.func174 rfl rfl (by kernel_rfl) rfl ?_
 by_cases h : i % 2 = 0
 ·have e : bt i = 26 := if_pos h
  rw [e]
  refine zs (za rfl (wl_nil (rk_seq (zs (zm rfl ?_)))))
  refine zp (o_rem rfl rfl (by omega) (by omega)) ?_
  refine zp (o_eq rfl rfl) ?_
  refine wl_nil ?_
  refine rk_if rfl (fun h5 => ?_) (fun h5 => h5.elim (by omega))
  refine zs (za rfl (wl_nil ?_))
  refine ret1 rfl rfl ?_
  exact ⟨rfl, hw⟩
 ·have e : bt i = 25 := if_neg h
  rw [e]
  refine zs (za rfl (wl_nil (rk_seq (zs (zm rfl ?_)))))
  refine zp (o_rem rfl rfl (by omega) (by omega)) ?_
  refine zp (o_eq rfl rfl) ?_
  refine wl_nil ?_
  refine rk_if rfl (fun h5 => absurd h5 (by omega)) (fun h5 => ?_)
  refine rk_skip (zs (za rfl (wl_nil ?_)))
  refine ret1 rfl rfl ?_
  exact ⟨rfl, hw⟩
set_option maxRecDepth 100000 in
theorem C_f3carry {x : W10} {r : W10} (w : World) (hr : carryS x = r) :
  CallsR Tryz.prog 175 [.agg (vI x.1).toArray] w fun v w' => v = .agg (vI r.1).toArray ∧ Below w.heap.size w w' := by
 subst hr
 have hx := x.2
 refine callsR Tryz.func175 rfl rfl (by kernel_rfl) rfl ?_
 have hw := Below.refl w.heap.size w
 refine zs ?_
 refine wl_boxg _ rfl (by rfl) ?_
 rintro g1 w1 f1 b1 i1 i1_1
 have s1 := b1.size
 replace hw := hw.trans (b1.mono hw.size)
 refine wl_allocg [_, _, _, _, _, _, _, _, _, _] Tryz.zeroValue173 (by rfl) ?_
 rintro g2 w2 f2 b2 i2 i2_1
 have s2 := b2.size
 replace hw := hw.trans (b2.mono hw.size)
 replace f1 := f1.u b2
 refine wl_nil (rk_seq (zs (za rfl (wl_nil (rk_block ?_)))))
 have hg12 : g1 < g2 := by omega
 refine rk_joinf (fun fb fr V => ∃ (X : W10), fr = [] ++ fb.drop 1 ∧ X = foldN crS 10 x ∧ Blk V g1 173 (vI X.1) ∧ Blk V g2 173 (vI (List.replicate 10 0)) ∧ Below w.heap.size w V) ?_ (fun ks hj => ?_)
 rotate_left
 ·refine rk_loopf (fun fb k fr V => ∃ (i : Nat) (v : Int) (X : W10), fr = [(3, .int .i64 v)] ++ fb.drop 1 ∧ v = i ∧ i ≤ 10 ∧ k = 10 - i ∧ X = foldN crS i x ∧ Blk V g1 173 (vI X.1) ∧ Blk V g2 173 (vI (List.replicate 10 0)) ∧ Below w.heap.size w V) (n := 10) (Fr.le_of (by kernel_rfl) (by kernel_rfl) (by repeat' constructor)) ⟨0, _, x, rfl, rfl, by omega, rfl, rfl, f1, f2, hw⟩ ?_
  clear f1 f2 hw
  rintro k fr V ⟨i, v, X, rfl, rfl, hi, rfl, hX, f1, f2, hw⟩
  have shw := hw.size
  have hXl := X.2
  have hXs : foldN crS (i + 1) x = crS X i := by rw [hX]; rfl
  first | refine zf ?_ | refine zg ?_
  by_cases hil : i < 10
  ·by_cases h9 : i = 9
   ·subst h9
    refine rk_seq (zs (zm rfl ?_))
    refine zp (o_lt rfl rfl) ?_
    refine wl_nil ?_
    refine rk_true rfl ?_
    refine rk_skip (rk_seq (rk_block (rk_seq ?_)))
    refine rk_draw (id := 4) (none) [0, 1, 2, 0, 8, 20, 63] [0, 1, 3, 0, 8, 31, 63] 16 16 [(.p, 0), (.p, 1), (.s, 2), (.p, 3), (.c, 4), (.p, 5), (.p, 6)] (by kernel_rfl) (by kernel_rfl) (by kernel_rfl) (by kernel_rfl) (by kernel_rfl) ?_
    replace hw := hw.drew
    replace f2 := f2.d
    replace f1 := f1.d
    refine zm rfl ?_
    refine zp (o_iaddrP (9) Tryz.underlying173 Tryz.sizeOf2 rfl rfl rfl (by omega)) ?_
    refine wl_s (fun _ hk => (o_ldI Tryz.isAgg2 rfl (f1.u (below_of_grown_none hk)) (by omega))) ?_
    refine zm rfl ?_
    refine wl_call rfl (C_f3bits _ rfl (by omega)) ?_ (hq := .inr fun _ _ h => grown_of_below h.2 _)
    rintro v13 w13 ⟨rfl, b13⟩
    simp only [drew_size] at b13
    have s13 := b13.size
    simp only [drew_size] at s13
    replace hw := hw.trans (b13.mono hw.size)
    replace f1 := f1.u b13
    replace f2 := f2.u b13
    refine zp (o_shrI (bt 9) rfl rfl rfl (by decide)) ?_
    refine za rfl ?_
    refine wl_nild ?_
    refine rk_seq ?_
    refine rk_draw (id := 5) (none) [0, 0, 2, 4, 0, 0, 32, 80, 136, 511, 1023] [0, 0, 2, 6, 0, 0, 32, 112, 254, 511, 1023] 1088 64 [(.p, 0), (.p, 1), (.p, 2), (.s, 3), (.p, 4), (.p, 5), (.c, 6), (.p, 7), (.p, 8), (.p, 9), (.l, 10)] (by kernel_rfl) (by kernel_rfl) (by kernel_rfl) (by kernel_rfl) (by kernel_rfl) ?_
    replace hw := hw.drew
    replace f2 := f2.d
    replace f1 := f1.d
    refine zm rfl (zm rfl ?_)
    refine zp (o_iaddrP (9) Tryz.underlying173 Tryz.sizeOf2 rfl rfl rfl (by omega)) ?_
    refine wl_s (fun _ hk => (o_ldI Tryz.isAgg2 rfl (f1.u (below_of_grown_none hk)) (by omega))) ?_
    refine zm rfl (zm rfl ?_)
    refine wl_call rfl (C_f3bits _ rfl (by omega)) ?_ (hq := .inr fun _ _ h => grown_of_below h.2 _)
    rintro v21 w21 ⟨rfl, b21⟩
    simp only [drew_size] at b21
    have s21 := b21.size
    simp only [drew_size] at s21
    replace hw := hw.trans (b21.mono hw.size)
    replace f1 := f1.u b21
    replace f2 := f2.u b21
    refine zp (o_shlI (bt 9) rfl rfl rfl (by decide)) ?_
    refine zp (o_subI rfl rfl) ?_
    refine zp (o_iaddrP (9) Tryz.underlying173 Tryz.sizeOf2 rfl rfl rfl (by omega)) ?_
    refine wl_stI Tryz.sizeOf2 rfl f1 rfl (by omega) ?_
    rintro w_1 f g e
    have s := g.size
    replace hw := hw.trans (below_of_grownBy g.g hw.size (by omega))
    replace f2 := f2.k g.g (ap_some (by omega))
    clear f1
    refine wl_nild ?_
    refine zs (zm rfl ?_)
    refine zp (o_eq rfl rfl) ?_
    refine wl_nil ?_
    refine rk_true rfl ?_
    refine rk_region ?_
    refine zp (o_iaddrP (0) Tryz.underlying173 Tryz.sizeOf2 rfl rfl (by omega) (by omega)) ?_
    refine wl_r (o_ldI Tryz.isAgg2 rfl f (by simp; omega)) ?_
    refine zm rfl ?_
    refine zp (o_mulI rfl rfl) ?_
    refine zp (o_addI rfl rfl) ?_
    refine zp (o_iaddrP (0) Tryz.underlying173 Tryz.sizeOf2 rfl rfl (by omega) (by omega)) ?_
    refine wl_stI Tryz.sizeOf2 rfl f rfl (by simp; omega) ?_
    rintro w_2 f_1 g_1 e_1
    have s_1 := g_1.size
    replace hw := hw.trans (below_of_grownBy g_1.g hw.size (by omega))
    replace f2 := f2.k g_1.g (ap_some (by omega))
    clear f
    refine wl_nil ?_
    refine rk_blk ?_
    refine rk_region (zm rfl ?_)
    refine zp (o_add rfl rfl (by omega) (by omega)) ?_
    refine za rfl (wl_nil ?_)
    exact rk_againf (Fr.le_of (by kernel_rfl) (by kernel_rfl) (by repeat' constructor)) ⟨10, _, _, rfl, rfl, by omega, rfl, rfl, by rw [hXs]; unfold crS; rw [if_pos rfl]; exact f_1, f2, hw⟩ (by omega)
   ·have hbt := bt_le i
    refine rk_seq (zs (zm rfl ?_))
    refine zp (o_lt rfl rfl) ?_
    refine wl_nil ?_
    refine rk_if rfl (fun h6 => ?_) (fun h6 => h6.elim (by omega))
    refine rk_skip (rk_seq (rk_block (rk_seq ?_)))
    refine rk_draw (id := 4) (none) [0, 1, 2, 0, 8, 20, 63] [0, 1, 3, 0, 8, 31, 63] 16 16 [(.p, 0), (.p, 1), (.s, 2), (.p, 3), (.c, 4), (.p, 5), (.p, 6)] (by kernel_rfl) (by kernel_rfl) (by kernel_rfl) (by kernel_rfl) (by kernel_rfl) ?_
    replace hw := hw.drew
    replace f2 := f2.d
    replace f1 := f1.d
    refine zm rfl ?_
    refine zp (o_iaddrP (i) Tryz.underlying173 Tryz.sizeOf2 rfl rfl rfl (by omega)) ?_
    refine wl_s (fun _ hk => (o_ldI Tryz.isAgg2 rfl (f1.u (below_of_grown_none hk)) (by omega))) ?_
    refine zm rfl ?_
    refine wl_call rfl (C_f3bits _ rfl (by omega)) ?_ (hq := .inr fun _ _ h => grown_of_below h.2 _)
    rintro v13 w13 ⟨rfl, b13⟩
    simp only [drew_size] at b13
    have s13 := b13.size
    simp only [drew_size] at s13
    replace hw := hw.trans (b13.mono hw.size)
    replace f1 := f1.u b13
    replace f2 := f2.u b13
    refine zp (o_shrI (bt i) rfl rfl rfl (by omega)) ?_
    refine za rfl ?_
    refine wl_nild ?_
    refine rk_seq ?_
    refine rk_draw (id := 5) (none) [0, 0, 2, 4, 0, 0, 32, 80, 136, 511, 1023] [0, 0, 2, 6, 0, 0, 32, 112, 254, 511, 1023] 1088 64 [(.p, 0), (.p, 1), (.p, 2), (.s, 3), (.p, 4), (.p, 5), (.c, 6), (.p, 7), (.p, 8), (.p, 9), (.l, 10)] (by kernel_rfl) (by kernel_rfl) (by kernel_rfl) (by kernel_rfl) (by kernel_rfl) ?_
    replace hw := hw.drew
    replace f2 := f2.d
    replace f1 := f1.d
    refine zm rfl (zm rfl ?_)
    refine zp (o_iaddrP (i) Tryz.underlying173 Tryz.sizeOf2 rfl rfl rfl (by omega)) ?_
    refine wl_s (fun _ hk => (o_ldI Tryz.isAgg2 rfl (f1.u (below_of_grown_none hk)) (by omega))) ?_
    refine zm rfl (zm rfl ?_)
    refine wl_call rfl (C_f3bits _ rfl (by omega)) ?_ (hq := .inr fun _ _ h => grown_of_below h.2 _)
    rintro v21 w21 ⟨rfl, b21⟩
    simp only [drew_size] at b21
    have s21 := b21.size
    simp only [drew_size] at s21
    replace hw := hw.trans (b21.mono hw.size)
    replace f1 := f1.u b21
    replace f2 := f2.u b21
    refine zp (o_shlI (bt i) rfl rfl rfl (by omega)) ?_
    refine zp (o_subI rfl rfl) ?_
    refine zp (o_iaddrP (i) Tryz.underlying173 Tryz.sizeOf2 rfl rfl rfl (by omega)) ?_
    refine wl_stI Tryz.sizeOf2 rfl f1 rfl (by omega) ?_
    rintro w_1 f g e
    have s := g.size
    replace hw := hw.trans (below_of_grownBy g.g hw.size (by omega))
    replace f2 := f2.k g.g (ap_some (by omega))
    clear f1
    refine wl_nild ?_
    refine zs (zm rfl ?_)
    refine zp (o_eq rfl rfl) ?_
    refine wl_nil ?_
    refine rk_if rfl (fun h26 => absurd h26 (by omega)) (fun h26 => ?_)
    refine rk_region (zm rfl ?_)
    refine zp (o_add rfl rfl (by omega) (by omega)) ?_
    refine zm rfl ?_
    refine zp (o_add rfl rfl (by omega) (by omega)) ?_
    refine zp (o_iaddrP (i + 1) Tryz.underlying173 Tryz.sizeOf2 rfl rfl (by omega) (by omega)) ?_
    refine wl_r (o_ldI Tryz.isAgg2 rfl f (by simp; omega)) ?_
    refine zm rfl ?_
    refine zp (o_addI rfl rfl) ?_
    refine zp (o_iaddrP (i + 1) Tryz.underlying173 Tryz.sizeOf2 rfl rfl (by omega) (by omega)) ?_
    refine wl_stI Tryz.sizeOf2 rfl f rfl (by simp; omega) ?_
    rintro w_2 f_1 g_1 e_1
    have s_1 := g_1.size
    replace hw := hw.trans (below_of_grownBy g_1.g hw.size (by omega))
    replace f2 := f2.k g_1.g (ap_some (by omega))
    clear f
    refine wl_nil ?_
    refine rk_blk ?_
    refine rk_region (zm rfl ?_)
    refine zp (o_add rfl rfl (by omega) (by omega)) ?_
    refine za rfl (wl_nil ?_)
    exact rk_againf (Fr.le_of (by kernel_rfl) (by kernel_rfl) (by repeat' constructor)) ⟨i + 1, (i : Int) + 1, _, rfl, by omega, by omega, rfl, rfl, by rw [hXs]; unfold crS; rw [if_neg h9]; exact f_1, f2, hw⟩ (by omega)
  ·refine rk_seq ?_
   refine zs (zm rfl ?_)
   refine zp (o_lt rfl rfl) ?_
   refine wl_nil ?_
   refine rk_if rfl (fun h6 => absurd h6 (by omega)) (fun h6 => ?_)
   refine rk_exit rfl ?_
   obtain rfl : i = 10 := by omega
   exact rk_tof hj (Fr.le_of (by kernel_rfl) (by kernel_rfl) (by repeat' constructor)) ⟨X, rfl, hX, f1, f2, hw⟩
 clear f1 f2 hw
 rintro fr V ⟨X, rfl, hX, f1, f2, hw⟩
 have shw := hw.size
 have hXl := X.2
 first | refine zf ?_ | refine zg ?_
 refine zs ?_
 refine wl_r (o_loadag Tryz.isAgg173 Tryz.sizeOf173 rfl f1 vI10) ?_
 refine wl_stIa Tryz.sizeOf173 rfl f2 rfl hXl (by rfl) ?_
 rintro w_1 f g e
 have s := g.size
 replace hw := hw.trans (below_of_grownBy g.g hw.size (by omega))
 replace f1 := f1.k g.g (ap_some (by omega))
 clear f2
 refine wl_nil ?_
 refine ret_cell rfl rfl Tryz.isAgg173 Tryz.sizeOf173 (by assumption) (by first | exact vI10 | exact b32 | exact ptC_len _ | exact frC_len _ | rfl) ?_
 exact ⟨by rw [hX]; rfl, hw⟩
end Go.Proofs.YtahkeoegbjopfaaGreat
namespace Go.Proofs.YtahkeoegbjopfaaGreat
set_option maxRecDepth 100000
open Go.RowKit
theorem rk_joinkq {P : Program} {fn : Func} {F : Ending → World → Prop} {N : Nat} {k : K} {ks : List K} {fr : Fr} {w : World} (R : Fr → Fr → World → Prop) (h2 : ∀ fr' w, R fr fr' w → RK P fn F N ks fr' w) (h1 : ∀ ks, (∀ fr' w, R fr fr' w → RK P fn F N ks fr' w) → RK P fn F N (k :: ks) fr w) : RK P fn F N (k :: ks) fr w := h1 ks h2
set_option maxRecDepth 100000 in
set_option maxHeartbeats 1000000 in
theorem C_f3Open {a : N32} {r : W10} (w : World) (hr : openS a = r) :
  CallsR Tryz.prog 147 [.agg (B8 a.1).toArray] w fun v w' => v = .agg (vI r.1).toArray ∧ Below w.heap.size w w' := by
 subst hr
 have ha := a.2
 refine callsR Tryz.func147 rfl rfl (by kernel_rfl) rfl ?_
 have hw := Below.refl w.heap.size w
 refine zs ?_
 refine wl_boxg _ rfl (by rfl) ?_
 rintro g1 w1 f1 b1 i1 i1_1
 have s1 := b1.size
 replace hw := hw.trans (b1.mono hw.size)
 refine wl_allocg [_, _, _, _, _, _, _, _, _, _] Tryz.zeroValue173 (by rfl) ?_
 rintro g2 w2 f2 b2 i2 i2_1
 have s2 := b2.size
 replace hw := hw.trans (b2.mono hw.size)
 replace f1 := f1.u b2
 refine wl_nil (zs ?_)
 refine wl_allocg [_, _, _, _, _, _, _, _, _, _] Tryz.zeroValue173 (by rfl) ?_
 rintro g3 w3 f3 b3 i3 i3_1
 have s3 := b3.size
 replace hw := hw.trans (b3.mono hw.size)
 replace f1 := f1.u b3
 replace f2 := f2.u b3
 refine wl_nil (zs (za rfl (wl_nil (rk_seq (zs (za rfl (wl_nil (rk_block ?_))))))))
 have hg12 : g1 < g2 := by omega
 have hg23 : g2 < g3 := by omega
 refine rk_joinf (fun fb fr V => ∃ (X : W10), fr = [] ++ fb.drop 2 ∧ X = foldN (opO a) 10 w10z ∧ Blk V g2 173 (vI (List.replicate 10 0)) ∧ Blk V g3 173 (vI X.1) ∧ Below w.heap.size w V) ?_ (fun ks hj => ?_)
 rotate_left
 ·refine rk_loopf (fun fb k fr V => ∃ (i : Nat) (v u : Int) (X : W10), fr = [(5, .int .i64 v), (4, .int .i64 u)] ++ fb.drop 2 ∧ v = i ∧ u = ((51 * i + 1) / 2 : Nat) ∧ i ≤ 10 ∧ k = 10 - i ∧ X = foldN (opO a) i w10z ∧ Blk V g1 108 (B8 a.1) ∧ Blk V g2 173 (vI (List.replicate 10 0)) ∧ Blk V g3 173 (vI X.1) ∧ Below w.heap.size w V) (n := 10) (Fr.le_of (by kernel_rfl) (by kernel_rfl) (by repeat' constructor)) ⟨0, _, _, w10z, rfl, rfl, rfl, by omega, rfl, rfl, f1, f2, f3, hw⟩ ?_
  clear f1 f2 f3 hw
  rintro k fr V ⟨i, v, u, X, rfl, rfl, rfl, hi, rfl, hX, f1, f2, f3, hw⟩
  have shw := hw.size
  have hXs : foldN (opO a) (i + 1) w10z = opO a X i := by rw [hX]; rfl
  first | refine zf ?_ | refine zg ?_
  by_cases hil : i < 10
  ·have hbt := bt_le i
   obtain ⟨T, hT⟩ : ∃ T, (51 * i + 1) / 2 = T := ⟨_, rfl⟩
   rw [hT]
   obtain ⟨M, hM⟩ : ∃ M, (if i = 9 then 26 else bt i) = M := ⟨_, rfl⟩
   have hMl : M ≤ 26 := by rw [← hM]; split <;> omega
   have hbT : T + bt i = (51 * (i + 1) + 1) / 2 := by unfold bt; split <;> omega
   have hTM : T + M ≤ 256 := by
    rw [← hM]; split <;> omega
   refine rk_seq (zs (zm rfl ?_))
   refine zp (o_lt rfl rfl) ?_
   refine wl_nil ?_
   refine rk_if rfl (fun h9 => ?_) (fun h9 => h9.elim (by omega))
   refine rk_skip (rk_seq (rk_block (zs (zm rfl ?_))))
   refine wl_call rfl (C_f3bits _ rfl (by omega)) ?_
   rintro v13 w13 ⟨rfl, b13⟩
   have s13 := b13.size
   replace hw := hw.trans (b13.mono hw.size)
   replace f3 := f3.u b13
   replace f2 := f2.u b13
   replace f1 := f1.u b13
   refine zp (o_convi64 (src := 102) (dst := 3) Tryz.underlying102 Tryz.underlying3 rfl (by omega) (by omega)) ?_
   refine za rfl (wl_nil (rk_seq ?_))
   refine rk_joinkq (fun fb fr V' => fr = [(6, .int .i64 (M : Int))] ++ fb.drop 3 ∧ V' = w13) ?_ (fun ks hj => ?_)
   rotate_left
   ·by_cases h9 : i = 9
    ·rw [if_pos h9] at hM
     refine zs (zm rfl ?_)
     refine zp (o_eq rfl rfl) ?_
     refine wl_nil ?_
     refine rk_if rfl (fun h16 => ?_) (fun h16 => h16.elim (by omega))
     refine rk_region (za rfl (wl_nil ?_))
     rw [show (26 : Int) = (M : Int) by omega]
     exact rk_tof hj (Fr.le_of (by kernel_rfl) (by kernel_rfl) (by repeat' constructor)) ⟨rfl, rfl⟩
    ·rw [if_neg h9] at hM
     refine zs (zm rfl ?_)
     refine zp (o_eq rfl rfl) ?_
     refine wl_nil ?_
     refine rk_if rfl (fun h16 => absurd h16 (by omega)) (fun h16 => ?_)
     refine rk_skip ?_
     rw [hM]
     exact rk_tof hj (Fr.le_of (by kernel_rfl) (by kernel_rfl) (by repeat' constructor)) ⟨rfl, rfl⟩
   rintro fr V' ⟨rfl, rfl⟩
   first | refine zf ?_ | refine zg ?_
   refine rk_seq (zs (za rfl (wl_nil (rk_block ?_))))
   refine rk_joinf (fun fb fr V2 => ∃ (Y : W10), fr = [] ++ fb.drop 1 ∧ Y = foldN (opI a i) M X ∧ Blk V2 g1 108 (B8 a.1) ∧ Blk V2 g2 173 (vI (List.replicate 10 0)) ∧ Blk V2 g3 173 (vI Y.1) ∧ Below w.heap.size w V2) ?_ (fun ks hj => ?_)
   rotate_left
   ·refine rk_loopf (fun fb k fr V2 => ∃ (q : Nat) (v : Int) (Y : W10), fr = [(7, .int .i64 v)] ++ fb.drop 1 ∧ v = q ∧ q ≤ M ∧ k = M - q ∧ Y = foldN (opI a i) q X ∧ Blk V2 g1 108 (B8 a.1) ∧ Blk V2 g2 173 (vI (List.replicate 10 0)) ∧ Blk V2 g3 173 (vI Y.1) ∧ Below w.heap.size w V2) (n := M) (Fr.le_of (by kernel_rfl) (by kernel_rfl) (by repeat' constructor)) ⟨0, _, X, rfl, rfl, by omega, rfl, rfl, f1, f2, f3, hw⟩ ?_
    clear f1 f2 f3 hw
    rintro k fr V2 ⟨q, v, Y, rfl, rfl, hq, rfl, hY, f1, f2, f3, hw⟩
    have shw := hw.size
    have hYl := Y.2
    have hYs : foldN (opI a i) (q + 1) X = opI a i Y q := by rw [hY]; rfl
    have hq2 : ((51 * i + 1) / 2 + q) = T + q := by omega
    first | refine zf ?_ | refine zg ?_
    by_cases hqm : q < M
    ·refine rk_seq ?_
     refine zs (zm rfl (zm rfl ?_))
     refine zp (o_lt rfl rfl) ?_
     refine zm rfl ?_
     refine wl_know 20 true rfl (decide_eq_true (by omega)) ?_
     refine zm rfl (zm rfl ?_)
     refine zp (o_add rfl rfl (by omega) (by omega)) ?_
     refine zp (o_lt rfl rfl) ?_
     refine zp (o_pick_t rfl rfl) ?_
     refine wl_nil ?_
     refine rk_if rfl (fun h25 => ?_) (fun h25 => h25.elim (by omega))
     refine rk_skip (rk_seq (rk_block (zs (zm rfl (zm rfl ?_)))))
     refine zp (o_add rfl rfl (by omega) (by omega)) ?_
     refine zp (o_quo rfl rfl (by omega) (by omega) (by omega)) ?_
     refine zp (o_iaddrP ((T + q) / 8) Tryz.underlying108 Tryz.sizeOf5 rfl rfl (by omega) (by omega)) ?_
     refine wl_r (o_ldD Tryz.isAgg5 rfl f1 (by omega)) ?_
     refine zm rfl (zm rfl ?_)
     refine zp (o_add rfl rfl (by omega) (by omega)) ?_
     refine zp (o_rem rfl rfl (by omega) (by omega)) ?_
     refine zp (o_convu64 (src := 3) (dst := 102) Tryz.underlying3 Tryz.underlying102 rfl (by omega) (by omega)) ?_
     refine zp (o_shr8 ((T + q) % 8) rfl rfl (by omega) (by omega)) ?_
     refine zp (o_remz rfl rfl (by omega)) ?_
     refine zp (o_eq rfl rfl) ?_
     refine wl_nil ?_
     refine rk_if rfl (fun h41 => ?_) (fun h41 => ?_)
     ·refine rk_region ?_
      refine zm rfl (zm rfl ?_)
      refine zp (o_iaddrP (i) Tryz.underlying173 Tryz.sizeOf2 rfl rfl rfl (by omega)) ?_
      refine wl_r (o_ldI Tryz.isAgg2 rfl f3 (by omega)) ?_
      refine zm rfl ?_
      refine zp (o_convu64 (src := 3) (dst := 102) Tryz.underlying3 Tryz.underlying102 rfl (by omega) (by omega)) ?_
      refine zp (o_shlI (q) rfl rfl rfl (by omega)) ?_
      refine zp (o_addI rfl rfl) ?_
      refine zp (o_iaddrP (i) Tryz.underlying173 Tryz.sizeOf2 rfl rfl rfl (by omega)) ?_
      refine wl_stI Tryz.sizeOf2 rfl f3 rfl (by omega) ?_
      rintro w_1 f g e
      have s := g.size
      replace hw := hw.trans (below_of_grownBy g.g hw.size (by omega))
      replace f2 := f2.k g.g (ap_some (by omega))
      replace f1 := f1.k g.g (ap_some (by omega))
      clear f3
      refine wl_nil ?_
      refine rk_blk ?_
      refine rk_region (zm rfl ?_)
      refine zp (o_add rfl rfl (by omega) (by omega)) ?_
      refine za rfl (wl_nil ?_)
      exact rk_againf (Fr.le_of (by kernel_rfl) (by kernel_rfl) (by repeat' constructor)) ⟨q + 1, (q : Int) + 1, _, rfl, by omega, by omega, rfl, rfl, f1, f2, by rw [hYs]; unfold opI; rw [hT, if_pos (show bit8 (a.at ((T + q) / 8)) ((T + q) % 8) from h41)]; assumption, hw⟩ (by omega)
     ·refine rk_skip ?_
      refine rk_blk ?_
      refine rk_region (zm rfl ?_)
      refine zp (o_add rfl rfl (by omega) (by omega)) ?_
      refine za rfl (wl_nil ?_)
      exact rk_againf (Fr.le_of (by kernel_rfl) (by kernel_rfl) (by repeat' constructor)) ⟨q + 1, (q : Int) + 1, _, rfl, by omega, by omega, rfl, rfl, f1, f2, by rw [hYs]; unfold opI; rw [hT, if_neg (show ¬bit8 (a.at ((T + q) / 8)) ((T + q) % 8) from h41)]; exact f3, hw⟩ (by omega)
    ·refine rk_seq ?_
     refine zs (zm rfl (zm rfl ?_))
     refine zp (o_lt rfl rfl) ?_
     refine zm rfl ?_
     refine wl_know 20 false rfl (decide_eq_false (by omega)) ?_
     refine wl_off (wl_off (wl_off (wl_off ?_)))
     refine zp (o_pick_f rfl rfl) ?_
     refine wl_nil ?_
     refine rk_false rfl ?_
     refine rk_exit rfl ?_
     obtain rfl : q = M := by omega
     exact rk_tof hj (Fr.le_of (by kernel_rfl) (by kernel_rfl) (by repeat' constructor)) ⟨Y, rfl, hY, f1, f2, f3, hw⟩
   clear f1 f2 f3 hw
   rintro fr V2 ⟨Y, rfl, hY, f1, f2, f3, hw⟩
   have shw := hw.size
   have hYl := Y.2
   have hXY : opO a X i = Y := by rw [hY, ← hM]; rfl
   first | refine zf ?_ | refine zg ?_
   refine rk_region (zm rfl (zm rfl ?_))
   refine wl_call rfl (C_f3bits _ rfl (by omega)) ?_
   rintro v53 w53 ⟨rfl, b53⟩
   have s53 := b53.size
   replace hw := hw.trans (b53.mono hw.size)
   replace f3 := f3.u b53
   replace f2 := f2.u b53
   replace f1 := f1.u b53
   refine zp (o_convi64 (src := 102) (dst := 3) Tryz.underlying102 Tryz.underlying3 rfl (by omega) (by omega)) ?_
   refine zp (o_add rfl rfl (by omega) (by omega)) ?_
   refine za rfl (wl_nil ?_)
   refine rk_blk ?_
   refine rk_region (zm rfl ?_)
   refine zp (o_add rfl rfl (by omega) (by omega)) ?_
   refine za rfl (wl_nil ?_)
   exact rk_againf (Fr.le_of (by kernel_rfl) (by kernel_rfl) (by repeat' constructor)) ⟨i + 1, (i : Int) + 1, (T : Int) + bt i, _, rfl, by omega, by omega, by omega, rfl, rfl, f1, f2, by rw [hXs, hXY]; exact f3, hw⟩ (by omega)
  ·refine rk_seq ?_
   refine zs (zm rfl ?_)
   refine zp (o_lt rfl rfl) ?_
   refine wl_nil ?_
   refine rk_if rfl (fun h9 => absurd h9 (by omega)) (fun h9 => ?_)
   refine rk_exit rfl ?_
   obtain rfl : i = 10 := by omega
   exact rk_tof hj (Fr.le_of (by kernel_rfl) (by kernel_rfl) (by repeat' constructor)) ⟨X, rfl, hX, f2, f3, hw⟩
 clear f1 f2 f3 hw
 rintro fr V ⟨X, rfl, hX, f2, f3, hw⟩
 have shw := hw.size
 have hXl := X.2
 obtain ⟨q, hq⟩ : ∃ q, carryS X = q := ⟨_, rfl⟩
 first | refine zf ?_ | refine zg ?_
 refine zs ?_
 refine wl_r (o_loadag Tryz.isAgg173 Tryz.sizeOf173 rfl f3 vI10) ?_
 refine wl_call rfl (C_f3carry _ hq) ?_
 rintro v57 w57 ⟨rfl, b57⟩
 have s57 := b57.size
 replace hw := hw.trans (b57.mono hw.size)
 replace f3 := f3.u b57
 replace f2 := f2.u b57
 refine wl_stIa Tryz.sizeOf173 rfl f2 rfl (by omega) (by rfl) ?_
 rintro w_1 f g e
 have s := g.size
 replace hw := hw.trans (below_of_grownBy g.g hw.size (by omega))
 replace f3 := f3.k g.g (ap_some (by omega))
 clear f2
 refine wl_nil ?_
 refine ret_cell rfl rfl Tryz.isAgg173 Tryz.sizeOf173 (by assumption) (by first | exact vI10 | exact b32 | exact ptC_len _ | exact frC_len _ | rfl) ?_
 exact ⟨by unfold openS; rw [← hX, hq], hw⟩
end Go.Proofs.YtahkeoegbjopfaaGreat
namespace Go.Proofs.YtahkeoegbjopfaaGreat
set_option maxRecDepth 100000
open Go.RowKit
set_option maxRecDepth 100000 in
set_option maxHeartbeats 1000000 in
theorem C_f3Close {x : W10} {r : N32} (w : World) (hr : closeS x = r) :
  CallsR Tryz.prog 153 [.agg (vI x.1).toArray] w fun v w' => v = .agg (B8 r.1).toArray ∧ Below w.heap.size w w' := by
 have hx := x.2
 obtain ⟨x1, h1⟩ : ∃ q, carryS x = q := ⟨_, rfl⟩
 obtain ⟨x2, h2⟩ : ∃ q, carryS x1 = q := ⟨_, rfl⟩
 obtain ⟨x3, h3⟩ : ∃ q, carryS x2 = q := ⟨_, rfl⟩
 obtain ⟨y, h4⟩ : ∃ q, carryS x3 = q := ⟨_, rfl⟩
 have hyl := y.2
 have hr2 : clE (foldN (clO y) 10 n32z) = r := by rw [← hr, ← h4, ← h3, ← h2, ← h1]; rfl
 clear hr
 refine callsR Tryz.func153 rfl rfl (by kernel_rfl) rfl ?_
 have hw := Below.refl w.heap.size w
 refine zs ?_
 refine wl_boxg _ rfl (by rfl) ?_
 rintro g1 w1 f1 b1 i1 i1_1
 have s1 := b1.size
 replace hw := hw.trans (b1.mono hw.size)
 refine wl_allocB Tryz.underlying108 Tryz.zeroValue108 (by rfl) ?_
 rintro g2 w2 f2 b2 i2 i2_1
 have s2 := b2.size
 replace hw := hw.trans (b2.mono hw.size)
 replace f1 := f1.u b2
 refine wl_nil (zs ?_)
 refine wl_r (o_loadag Tryz.isAgg173 Tryz.sizeOf173 rfl f1 vI10) ?_
 refine wl_call rfl (C_f3carry _ h1) ?_
 rintro v9 w9 ⟨rfl, b9⟩
 have s9 := b9.size
 replace hw := hw.trans (b9.mono hw.size)
 replace f1 := f1.u b9
 replace f2 := f2.u b9
 refine wl_call rfl (C_f3carry _ h2) ?_
 rintro v10 w10 ⟨rfl, b10⟩
 have s10 := b10.size
 replace hw := hw.trans (b10.mono hw.size)
 replace f2 := f2.u b10
 replace f1 := f1.u b10
 refine wl_call rfl (C_f3carry _ h3) ?_
 rintro v11 w11 ⟨rfl, b11⟩
 have s11 := b11.size
 replace hw := hw.trans (b11.mono hw.size)
 replace f1 := f1.u b11
 replace f2 := f2.u b11
 refine wl_call rfl (C_f3carry _ h4) ?_
 rintro v12 w12 ⟨rfl, b12⟩
 have s12 := b12.size
 replace hw := hw.trans (b12.mono hw.size)
 replace f2 := f2.u b12
 replace f1 := f1.u b12
 refine wl_stIa Tryz.sizeOf173 rfl f1 rfl hyl hx ?_
 rintro w_1 f g e
 have s := g.size
 replace hw := hw.trans (below_of_grownBy g.g hw.size (by omega))
 replace f2 := f2.k g.g (ap_some (by omega))
 clear f1
 refine wl_nil (zs ?_)
 refine wl_allocB Tryz.underlying108 Tryz.zeroValue108 (by rfl) ?_
 rintro g3 w3 f3 b3 i3 i3_1
 have s3 := b3.size
 replace hw := hw.trans (b3.mono hw.size)
 replace f2 := f2.u b3
 replace f := f.u b3
 refine wl_nil (zs (za rfl (wl_nil (rk_seq (zs (za rfl (wl_nil (rk_block ?_))))))))
 clear h1 h2 h3 h4
 have hg12 : g1 < g2 := by omega
 have hg23 : g2 < g3 := by omega
 refine rk_joinf (fun fb fr V => ∃ (o : N32), fr = [] ++ fb.drop 2 ∧ o = foldN (clO y) 10 n32z ∧ Blk V g2 108 (B8 (List.replicate 32 0)) ∧ Blk V g3 108 (B8 o.1) ∧ Below w.heap.size w V) ?_ (fun ks hj => ?_)
 rotate_left
 ·refine rk_loopf (fun fb k fr V => ∃ (i : Nat) (v u : Int) (o : N32), fr = [(5, .int .i64 v), (4, .int .i64 u)] ++ fb.drop 2 ∧ v = i ∧ u = ((51 * i + 1) / 2 : Nat) ∧ i ≤ 10 ∧ k = 10 - i ∧ o = foldN (clO y) i n32z ∧ Blk V g1 173 (vI y.1) ∧ Blk V g2 108 (B8 (List.replicate 32 0)) ∧ Blk V g3 108 (B8 o.1) ∧ Below w.heap.size w V) (n := 10) (Fr.le_of (by kernel_rfl) (by kernel_rfl) (by repeat' constructor)) ⟨0, _, _, n32z, rfl, rfl, rfl, by omega, rfl, rfl, by assumption, by assumption, by assumption, hw⟩ ?_
  clear f f2 f3 hw
  rintro k fr V ⟨i, v, u, o, rfl, rfl, rfl, hi, rfl, ho, f1, f2, f3, hw⟩
  have shw := hw.size
  have hos : foldN (clO y) (i + 1) n32z = clO y o i := by rw [ho]; rfl
  first | refine zf ?_ | refine zg ?_
  by_cases hil : i < 10
  ·have hbt := bt_le i
   obtain ⟨T, hT⟩ : ∃ T, (51 * i + 1) / 2 = T := ⟨_, rfl⟩
   rw [hT]
   have hbT : T + bt i = (51 * (i + 1) + 1) / 2 := by unfold bt; split <;> omega
   have hTM : T + bt i ≤ 256 := by omega
   refine rk_seq (zs (zm rfl ?_))
   refine zp (o_lt rfl rfl) ?_
   refine wl_nil ?_
   refine rk_if rfl (fun h14 => ?_) (fun h14 => h14.elim (by omega))
   refine rk_skip (rk_seq (rk_block (rk_seq (zs (za rfl (wl_nil (rk_block ?_)))))))
   refine rk_joinf (fun fb fr V2 => ∃ (q : N32), fr = [] ++ fb.drop 1 ∧ q = foldN (clI y i) (bt i) o ∧ Blk V2 g1 173 (vI y.1) ∧ Blk V2 g2 108 (B8 (List.replicate 32 0)) ∧ Blk V2 g3 108 (B8 q.1) ∧ Below w.heap.size w V2) ?_ (fun ks hj => ?_)
   rotate_left
   ·refine rk_loopf (fun fb k fr V2 => ∃ (m : Nat) (v : Int) (q : N32), fr = [(6, .int .i64 v)] ++ fb.drop 1 ∧ v = m ∧ m ≤ bt i ∧ k = bt i - m ∧ q = foldN (clI y i) m o ∧ Blk V2 g1 173 (vI y.1) ∧ Blk V2 g2 108 (B8 (List.replicate 32 0)) ∧ Blk V2 g3 108 (B8 q.1) ∧ Below w.heap.size w V2) (n := bt i) (Fr.le_of (by kernel_rfl) (by kernel_rfl) (by repeat' constructor)) ⟨0, _, o, rfl, rfl, by omega, rfl, rfl, f1, f2, f3, hw⟩ ?_
    clear f1 f2 f3 hw
    rintro k fr V2 ⟨m, v, q, rfl, rfl, hm, rfl, hq, f1, f2, f3, hw⟩
    have shw := hw.size
    have hql := q.2
    have hqs : foldN (clI y i) (m + 1) o = clI y i q m := by rw [hq]; rfl
    first | refine zf ?_ | refine zg ?_
    by_cases hmb : m < bt i
    ·refine rk_seq ?_
     refine zs (zm rfl (zm rfl ?_))
     refine wl_call rfl (C_f3bits _ rfl (by omega)) ?_
     rintro v19 w19 ⟨rfl, b19⟩
     have s19 := b19.size
     replace hw := hw.trans (b19.mono hw.size)
     replace f3 := f3.u b19
     replace f2 := f2.u b19
     replace f1 := f1.u b19
     refine zp (o_convi64 (src := 102) (dst := 3) Tryz.underlying102 Tryz.underlying3 rfl (by omega) (by omega)) ?_
     refine zp (o_lt rfl rfl) ?_
     refine wl_nil ?_
     refine rk_if rfl (fun h21 => ?_) (fun h21 => h21.elim (by omega))
     refine rk_skip (rk_seq (rk_block (zs (zm rfl ?_))))
     refine zp (o_iaddrP (i) Tryz.underlying173 Tryz.sizeOf2 rfl rfl rfl (by omega)) ?_
     refine wl_r (o_ldI Tryz.isAgg2 rfl f1 (by omega)) ?_
     refine zm rfl ?_
     refine zp (o_convu64 (src := 3) (dst := 102) Tryz.underlying3 Tryz.underlying102 rfl (by omega) (by omega)) ?_
     refine zp (o_shrI (m) rfl rfl rfl (by omega)) ?_
     refine zp (o_remz rfl rfl (by omega)) ?_
     refine zp (o_eq rfl rfl) ?_
     refine wl_nil ?_
     refine rk_if rfl (fun h31 => ?_) (fun h31 => ?_)
     ·refine rk_region ?_
      refine zm rfl (zm rfl ?_)
      refine zp (o_add rfl rfl (by omega) (by omega)) ?_
      refine zp (o_quo rfl rfl (by omega) (by omega) (by omega)) ?_
      refine zm rfl (zm rfl ?_)
      refine zp (o_add rfl rfl (by omega) (by omega)) ?_
      refine zp (o_quo rfl rfl (by omega) (by omega) (by omega)) ?_
      refine zp (o_iaddrP ((T + m) / 8) Tryz.underlying108 Tryz.sizeOf5 rfl rfl (by omega) (by omega)) ?_
      refine wl_r (o_ldD Tryz.isAgg5 rfl f3 (by omega)) ?_
      refine zm rfl (zm rfl ?_)
      refine zp (o_add rfl rfl (by omega) (by omega)) ?_
      refine zp (o_rem rfl rfl (by omega) (by omega)) ?_
      refine zp (o_convu64 (src := 3) (dst := 102) Tryz.underlying3 Tryz.underlying102 rfl (by omega) (by omega)) ?_
      refine zp (o_shl8 ((T + m) % 8) rfl rfl (by omega) (by omega)) ?_
      refine zp (o_add8 rfl rfl) ?_
      refine zp (o_iaddrP ((T + m) / 8) Tryz.underlying108 Tryz.sizeOf5 rfl rfl (by omega) (by omega)) ?_
      refine wl_stB Tryz.sizeOf5 rfl f3 rfl (by omega) ?_
      rintro w_2 f g_1 e_1
      have s_1 := g_1.size
      replace hw := hw.trans (below_of_grownBy g_1.g hw.size (by omega))
      replace f1 := f1.k g_1.g (ap_some (by omega))
      replace f2 := f2.k g_1.g (ap_some (by omega))
      clear f3
      refine wl_nil ?_
      refine rk_blk ?_
      refine rk_region (zm rfl ?_)
      refine zp (o_add rfl rfl (by omega) (by omega)) ?_
      refine za rfl (wl_nil ?_)
      exact rk_againf (Fr.le_of (by kernel_rfl) (by kernel_rfl) (by repeat' constructor)) ⟨m + 1, (m : Int) + 1, _, rfl, by omega, by omega, rfl, rfl, f1, f2, by rw [hqs]; unfold clI; rw [hT, if_pos (show (y.at i / 2 ^ m).tmod 2 = 1 from h31)]; assumption, hw⟩ (by omega)
     ·refine rk_skip ?_
      refine rk_blk ?_
      refine rk_region (zm rfl ?_)
      refine zp (o_add rfl rfl (by omega) (by omega)) ?_
      refine za rfl (wl_nil ?_)
      exact rk_againf (Fr.le_of (by kernel_rfl) (by kernel_rfl) (by repeat' constructor)) ⟨m + 1, (m : Int) + 1, _, rfl, by omega, by omega, rfl, rfl, f1, f2, by rw [hqs]; unfold clI; rw [hT, if_neg (show ¬(y.at i / 2 ^ m).tmod 2 = 1 from h31)]; exact f3, hw⟩ (by omega)
    ·refine rk_seq ?_
     refine zs (zm rfl (zm rfl ?_))
     refine wl_call rfl (C_f3bits _ rfl (by omega)) ?_
     rintro v19 w19 ⟨rfl, b19⟩
     have s19 := b19.size
     replace hw := hw.trans (b19.mono hw.size)
     replace f3 := f3.u b19
     replace f2 := f2.u b19
     replace f1 := f1.u b19
     refine zp (o_convi64 (src := 102) (dst := 3) Tryz.underlying102 Tryz.underlying3 rfl (by omega) (by omega)) ?_
     refine zp (o_lt rfl rfl) ?_
     refine wl_nil ?_
     refine rk_if rfl (fun h21 => absurd h21 (by omega)) (fun h21 => ?_)
     refine rk_exit rfl ?_
     obtain rfl : m = bt i := by omega
     exact rk_tof hj (Fr.le_of (by kernel_rfl) (by kernel_rfl) (by repeat' constructor)) ⟨q, rfl, hq, f1, f2, f3, hw⟩
   clear f1 f2 f3 hw
   rintro fr V2 ⟨q, rfl, hq, f1, f2, f3, hw⟩
   have shw := hw.size
   have hql := q.2
   have hoq : clO y o i = q := by rw [hq]; rfl
   first | refine zf ?_ | refine zg ?_
   refine rk_region (zm rfl (zm rfl ?_))
   refine wl_call rfl (C_f3bits _ rfl (by omega)) ?_
   rintro v52 w52 ⟨rfl, b52⟩
   have s52 := b52.size
   replace hw := hw.trans (b52.mono hw.size)
   replace f3 := f3.u b52
   replace f2 := f2.u b52
   replace f1 := f1.u b52
   refine zp (o_convi64 (src := 102) (dst := 3) Tryz.underlying102 Tryz.underlying3 rfl (by omega) (by omega)) ?_
   refine zp (o_add rfl rfl (by omega) (by omega)) ?_
   refine za rfl (wl_nil ?_)
   refine rk_blk ?_
   refine rk_region (zm rfl ?_)
   refine zp (o_add rfl rfl (by omega) (by omega)) ?_
   refine za rfl (wl_nil ?_)
   exact rk_againf (Fr.le_of (by kernel_rfl) (by kernel_rfl) (by repeat' constructor)) ⟨i + 1, (i : Int) + 1, (T : Int) + bt i, _, rfl, by omega, by omega, by omega, rfl, rfl, f1, f2, by rw [hos, hoq]; exact f3, hw⟩ (by omega)
  ·refine rk_seq ?_
   refine zs (zm rfl ?_)
   refine zp (o_lt rfl rfl) ?_
   refine wl_nil ?_
   refine rk_if rfl (fun h14 => absurd h14 (by omega)) (fun h14 => ?_)
   refine rk_exit rfl ?_
   obtain rfl : i = 10 := by omega
   exact rk_tof hj (Fr.le_of (by kernel_rfl) (by kernel_rfl) (by repeat' constructor)) ⟨o, rfl, ho, f2, f3, hw⟩
 clear f f2 f3 hw
 rintro fr V ⟨o, rfl, ho, f2, f3, hw⟩
 have shw := hw.size
 have hol := o.2
 rw [← ho] at hr2
 unfold clE at hr2
 first | refine zf ?_ | refine zg ?_
 by_cases hA : ((o.1.getD 0 0).toNat : Int) < 237
 ·rw [if_pos (.inl hA)] at hr2
  refine rk_seq (zs ?_)
  refine zp (o_iaddrP (0) Tryz.underlying108 Tryz.sizeOf5 rfl rfl (by omega) (by omega)) ?_
  refine wl_r (o_ldD Tryz.isAgg5 rfl f3 (by omega)) ?_
  refine zp (o_lt rfl rfl) ?_
  refine zm rfl ?_
  refine wl_know 58 true rfl (decide_eq_true (by omega)) ?_
  refine wl_off (wl_off (wl_off ?_))
  refine zp (o_pick_t rfl rfl) ?_
  refine wl_nil ?_
  refine rk_true rfl ?_
  refine zs ?_
  refine wl_r (o_ldBa Tryz.isAgg108 Tryz.sizeOf108 rfl f3 hol) ?_
  refine wl_stBa Tryz.sizeOf108 rfl f2 rfl hol (by rfl) ?_
  rintro w_2 f g_1 e_1
  have s_1 := g_1.size
  replace hw := hw.trans (below_of_grownBy g_1.g hw.size (by omega))
  replace f3 := f3.k g_1.g (ap_some (by omega))
  clear f2
  refine wl_nil ?_
  refine ret_cell rfl rfl Tryz.isAgg108 Tryz.sizeOf108 (by assumption) (by first | exact vI10 | exact b32 | exact ptC_len _ | exact frC_len _ | rfl) ?_
  exact ⟨by rw [hr2], hw⟩
 ·by_cases hB : ((o.1.getD 31 0).toNat : Int) = 127
  ·rw [if_neg (fun h => h.elim hA (fun h => h hB))] at hr2
   refine rk_seq (zs ?_)
   refine zp (o_iaddrP (0) Tryz.underlying108 Tryz.sizeOf5 rfl rfl (by omega) (by omega)) ?_
   refine wl_r (o_ldD Tryz.isAgg5 rfl f3 (by omega)) ?_
   refine zp (o_lt rfl rfl) ?_
   refine zm rfl ?_
   refine wl_know 58 false rfl (decide_eq_false (by omega)) ?_
   refine zp (o_iaddrP (31) Tryz.underlying108 Tryz.sizeOf5 rfl rfl (by omega) (by omega)) ?_
   refine wl_r (o_ldD Tryz.isAgg5 rfl f3 (by omega)) ?_
   refine zp (o_ne rfl rfl) ?_
   refine zp (o_pick_f rfl rfl) ?_
   refine wl_nil ?_
   refine rk_if rfl (fun h62 => absurd h62 (by omega)) (fun h62 => ?_)
   refine rk_skip (rk_seq (zs (za rfl (wl_nil (rk_block ?_)))))
   refine rk_joinf (fun fb fr V2 => fr = [] ++ fb.drop 1 ∧ (∀ j, j < 31 → 1 ≤ j → ((o.at j).toNat : Int) = 255) ∧ Blk V2 g2 108 (B8 (List.replicate 32 0)) ∧ Blk V2 g3 108 (B8 o.1) ∧ Below w.heap.size w V2) ?_ (fun ks hj => ?_)
   rotate_left
   ·refine rk_loopf (fun fb k fr V2 => ∃ (i : Nat) (v : Int), fr = [(7, .int .i64 v)] ++ fb.drop 1 ∧ v = i ∧ 1 ≤ i ∧ i ≤ 31 ∧ k = 31 - i ∧ (∀ j, j < i → 1 ≤ j → ((o.at j).toNat : Int) = 255) ∧ Blk V2 g2 108 (B8 (List.replicate 32 0)) ∧ Blk V2 g3 108 (B8 o.1) ∧ Below w.heap.size w V2) (n := 30) (Fr.le_of (by kernel_rfl) (by kernel_rfl) (by repeat' constructor)) ⟨1, _, rfl, rfl, by omega, by omega, rfl, fun j h1 h2 => by omega, f2, f3, hw⟩ ?_
    clear f2 f3 hw
    rintro k fr V2 ⟨i, v, rfl, rfl, hi1, hi, rfl, hall, f2, f3, hw⟩
    have shw := hw.size
    first | refine zf ?_ | refine zg ?_
    by_cases hil : i < 31
    ·by_cases hC : ((o.1.getD i 0).toNat : Int) = 255
     ·refine rk_seq ?_
      refine zs (zm rfl ?_)
      refine zp (o_lt rfl rfl) ?_
      refine wl_nil ?_
      refine rk_if rfl (fun h65 => ?_) (fun h65 => h65.elim (by omega))
      refine rk_skip (rk_seq (rk_block (zs (zm rfl ?_))))
      refine zp (o_iaddrP (i) Tryz.underlying108 Tryz.sizeOf5 rfl rfl rfl (by omega)) ?_
      refine wl_r (o_ldD Tryz.isAgg5 rfl f3 (by omega)) ?_
      refine zp (o_ne rfl rfl) ?_
      refine wl_nil ?_
      refine rk_if rfl (fun h71 => absurd h71 (by omega)) (fun h71 => ?_)
      refine rk_skip ?_
      refine rk_blk ?_
      refine rk_region (zm rfl ?_)
      refine zp (o_add rfl rfl (by omega) (by omega)) ?_
      refine za rfl (wl_nil ?_)
      exact rk_againf (Fr.le_of (by kernel_rfl) (by kernel_rfl) (by repeat' constructor)) ⟨i + 1, (i : Int) + 1, rfl, by omega, by omega, by omega, rfl, fun j h1 h2 => by rcases Nat.lt_succ_iff_lt_or_eq.1 h1 with h | rfl; exact hall j h h2; exact hC, f2, f3, hw⟩ (by omega)
     ·rw [if_neg (fun h => hC (h i hil hi1))] at hr2
      refine rk_seq (zs (zm rfl ?_))
      refine zp (o_lt rfl rfl) ?_
      refine wl_nil ?_
      refine rk_if rfl (fun h65 => ?_) (fun h65 => h65.elim (by omega))
      refine rk_skip (rk_seq (rk_block (zs (zm rfl ?_))))
      refine zp (o_iaddrP (i) Tryz.underlying108 Tryz.sizeOf5 rfl rfl rfl (by omega)) ?_
      refine wl_r (o_ldD Tryz.isAgg5 rfl f3 (by omega)) ?_
      refine zp (o_ne rfl rfl) ?_
      refine wl_nil ?_
      refine rk_if rfl (fun h71 => ?_) (fun h71 => h71.elim (by omega))
      refine zs ?_
      refine wl_r (o_ldBa Tryz.isAgg108 Tryz.sizeOf108 rfl f3 hol) ?_
      refine wl_stBa Tryz.sizeOf108 rfl f2 rfl hol (by rfl) ?_
      rintro w_2 f g_1 e_1
      have s_1 := g_1.size
      replace hw := hw.trans (below_of_grownBy g_1.g hw.size (by omega))
      replace f3 := f3.k g_1.g (ap_some (by omega))
      clear f2
      refine wl_nil ?_
      refine ret_cell rfl rfl Tryz.isAgg108 Tryz.sizeOf108 (by assumption) (by first | exact vI10 | exact b32 | exact ptC_len _ | exact frC_len _ | rfl) ?_
      exact ⟨by rw [hr2], hw⟩
    ·refine rk_seq ?_
     refine zs (zm rfl ?_)
     refine zp (o_lt rfl rfl) ?_
     refine wl_nil ?_
     refine rk_if rfl (fun h65 => absurd h65 (by omega)) (fun h65 => ?_)
     refine rk_exit rfl ?_
     obtain rfl : i = 31 := by omega
     exact rk_tof hj (Fr.le_of (by kernel_rfl) (by kernel_rfl) (by repeat' constructor)) ⟨rfl, hall, f2, f3, hw⟩
   clear f2 f3 hw
   rintro fr V2 ⟨rfl, hall, f2, f3, hw⟩
   have shw := hw.size
   rw [if_pos hall] at hr2
   first | refine zf ?_ | refine zg ?_
   refine zs ?_
   refine zp (o_iaddrP (0) Tryz.underlying108 Tryz.sizeOf5 rfl rfl (by omega) (by omega)) ?_
   refine wl_r (o_ldD Tryz.isAgg5 rfl f3 (by omega)) ?_
   refine zp (o_sub8 rfl rfl) ?_
   refine zp (o_buildga [_, _, _, _, _, _, _, _, _, _, _, _, _, _, _, _, _, _, _, _, _, _, _, _, _, _, _, _, _, _, _, _] Tryz.underlying108 Tryz.sizeOf5 Tryz.zeroValue108 (by rfl) (by rfl) rfl (by rfl) (by rfl) (fun _ => by kernel_rfl)) ?_
   refine wl_storega Tryz.sizeOf108 rfl rfl (by rfl) (oneCell_of (by rfl)) f2 (by rfl) ?_
   rintro w_2 f g_1 e_1
   have s_1 := g_1.size
   replace hw := hw.trans (below_of_grownBy g_1.g hw.size (by omega))
   replace f3 := f3.k g_1.g (ap_some (by omega))
   clear f2
   refine wl_nil ?_
   refine ret_cell rfl rfl Tryz.isAgg108 Tryz.sizeOf108 (by assumption) (by first | exact vI10 | exact b32 | exact ptC_len _ | exact frC_len _ | rfl) ?_
   exact ⟨by rw [← hr2]; rfl, hw⟩
  ·rw [if_pos (.inr hB)] at hr2
   refine rk_seq (zs ?_)
   refine zp (o_iaddrP (0) Tryz.underlying108 Tryz.sizeOf5 rfl rfl (by omega) (by omega)) ?_
   refine wl_r (o_ldD Tryz.isAgg5 rfl f3 (by omega)) ?_
   refine zp (o_lt rfl rfl) ?_
   refine zm rfl ?_
   refine wl_know 58 false rfl (decide_eq_false (by omega)) ?_
   refine zp (o_iaddrP (31) Tryz.underlying108 Tryz.sizeOf5 rfl rfl (by omega) (by omega)) ?_
   refine wl_r (o_ldD Tryz.isAgg5 rfl f3 (by omega)) ?_
   refine zp (o_ne rfl rfl) ?_
   refine zp (o_pick_f rfl rfl) ?_
   refine wl_nil ?_
   refine rk_if rfl (fun h62 => ?_) (fun h62 => h62.elim (by omega))
   refine zs ?_
   refine wl_r (o_ldBa Tryz.isAgg108 Tryz.sizeOf108 rfl f3 hol) ?_
   refine wl_stBa Tryz.sizeOf108 rfl f2 rfl hol (by rfl) ?_
   rintro w_2 f g_1 e_1
   have s_1 := g_1.size
   replace hw := hw.trans (below_of_grownBy g_1.g hw.size (by omega))
   replace f3 := f3.k g_1.g (ap_some (by omega))
   clear f2
   refine wl_nil ?_
   refine ret_cell rfl rfl Tryz.isAgg108 Tryz.sizeOf108 (by assumption) (by first | exact vI10 | exact b32 | exact ptC_len _ | exact frC_len _ | rfl) ?_
   exact ⟨by rw [hr2], hw⟩
end Go.Proofs.YtahkeoegbjopfaaGreat
namespace Go.Proofs.YtahkeoegbjopfaaGreat
set_option maxRecDepth 100000
open Go.RowKit
set_option maxRecDepth 100000 in
theorem C_f3Plus {x y r : W10} (w : World) (hr : plusS x y = r) :
  CallsR Tryz.prog 176 [.agg (vI x.1).toArray, .agg (vI y.1).toArray] w fun v w' => v = .agg (vI r.1).toArray ∧ Below w.heap.size w w' := by
 have hx := x.2
 have hy := y.2
 refine callsR Tryz.func176 rfl rfl (by kernel_rfl) rfl ?_
 have hw := Below.refl w.heap.size w
 refine zs ?_
 refine wl_boxg _ rfl (by rfl) ?_
 rintro g2 w2 f2 b2 i2 i2_1
 have s2 := b2.size
 replace hw := hw.trans (b2.mono hw.size)
 refine wl_boxg _ rfl (by rfl) ?_
 rintro g3 w3 f3 b3 i3 i3_1
 have s3 := b3.size
 replace hw := hw.trans (b3.mono hw.size)
 replace f2 := f2.u b3
 refine wl_allocg [_, _, _, _, _, _, _, _, _, _] Tryz.zeroValue173 (by rfl) ?_
 rintro g4 w4 f4 b4 i4 i4_1
 have s4 := b4.size
 replace hw := hw.trans (b4.mono hw.size)
 replace f2 := f2.u b4
 replace f3 := f3.u b4
 refine wl_nil (rk_seq (zs (za rfl (wl_nil (rk_block ?_)))))
 have hg23 : g2 < g3 := by omega
 have hg34 : g3 < g4 := by omega
 refine rk_joinf (fun fb fr V => ∃ (X : W10), fr = [] ++ fb.drop 1 ∧ X = foldN (plI y) 10 x ∧ Blk V g2 173 (vI X.1) ∧ Blk V g4 173 (vI (List.replicate 10 0)) ∧ Below w.heap.size w V) ?_ (fun ks hj => ?_)
 rotate_left
 ·refine rk_loopf (fun fb k fr V => ∃ (i : Nat) (v : Int) (X : W10), fr = [(5, .int .i64 v)] ++ fb.drop 1 ∧ v = i ∧ i ≤ 10 ∧ k = 10 - i ∧ X = foldN (plI y) i x ∧ Blk V g2 173 (vI X.1) ∧ Blk V g3 173 (vI y.1) ∧ Blk V g4 173 (vI (List.replicate 10 0)) ∧ Below w.heap.size w V) (n := 10) (Fr.le_of (by kernel_rfl) (by kernel_rfl) (by repeat' constructor)) ⟨0, _, x, rfl, rfl, by omega, rfl, rfl, f2, f3, f4, hw⟩ ?_
  clear f2 f3 f4 hw
  rintro k fr V ⟨i, v, X, rfl, rfl, hi, rfl, hX, f2, f3, f4, hw⟩
  have shw := hw.size
  have hXl := X.2
  have hXs : foldN (plI y) (i + 1) x = plI y X i := by rw [hX]; rfl
  first | refine zf ?_ | refine zg ?_
  by_cases hil : i < 10
  ·refine rk_seq ?_
   refine zs (zm rfl ?_)
   refine zp (o_lt rfl rfl) ?_
   refine wl_nil ?_
   refine rk_if rfl (fun h7 => ?_) (fun h7 => h7.elim (by omega))
   refine rk_skip (rk_seq (rk_block ?_))
   refine rk_draw (id := 4) (none) [0, 0, 2, 4, 0, 16, 32, 72, 255, 511] [0, 0, 2, 6, 0, 16, 48, 126, 255, 511] 512 0 [(.p, 0), (.p, 1), (.p, 2), (.r, 3), (.p, 4), (.p, 5), (.r, 6), (.p, 7), (.p, 8), (.l, 9)] (by kernel_rfl) (by kernel_rfl) (by kernel_rfl) (by kernel_rfl) (by kernel_rfl) ?_
   replace hw := hw.drew
   replace f4 := f4.d
   replace f3 := f3.d
   replace f2 := f2.d
   refine zm rfl (zm rfl ?_)
   refine zp (o_iaddrP (i) Tryz.underlying173 Tryz.sizeOf2 rfl rfl rfl (by omega)) ?_
   refine wl_r (o_ldI Tryz.isAgg2 rfl f2 (by omega)) ?_
   refine zm rfl ?_
   refine zp (o_iaddrP (i) Tryz.underlying173 Tryz.sizeOf2 rfl rfl rfl (by omega)) ?_
   refine wl_r (o_ldI Tryz.isAgg2 rfl f3 (by omega)) ?_
   refine zp (o_addI rfl rfl) ?_
   refine zp (o_iaddrP (i) Tryz.underlying173 Tryz.sizeOf2 rfl rfl rfl (by omega)) ?_
   refine wl_stI Tryz.sizeOf2 rfl f2 rfl (by omega) ?_
   rintro w_1 f g e
   simp only [drew_size] at e
   have s := g.size
   simp only [drew_size] at s
   replace hw := hw.trans (below_of_grownBy g.g hw.size (by omega))
   replace f3 := f3.k g.g (ap_some (by omega))
   replace f4 := f4.k g.g (ap_some (by omega))
   clear f2
   refine wl_nild ?_
   refine rk_blk ?_
   refine rk_region (zm rfl ?_)
   refine zp (o_add rfl rfl (by omega) (by omega)) ?_
   refine za rfl (wl_nil ?_)
   exact rk_againf (Fr.le_of (by kernel_rfl) (by kernel_rfl) (by repeat' constructor)) ⟨i + 1, (i : Int) + 1, _, rfl, by omega, by omega, rfl, rfl, by rw [hXs]; unfold plI; assumption, f3, f4, hw⟩ (by omega)
  ·refine rk_seq ?_
   refine zs (zm rfl ?_)
   refine zp (o_lt rfl rfl) ?_
   refine wl_nil ?_
   refine rk_if rfl (fun h7 => absurd h7 (by omega)) (fun h7 => ?_)
   refine rk_exit rfl ?_
   obtain rfl : i = 10 := by omega
   exact rk_tof hj (Fr.le_of (by kernel_rfl) (by kernel_rfl) (by repeat' constructor)) ⟨X, rfl, hX, f2, f4, hw⟩
 clear f2 f3 f4 hw
 rintro fr V ⟨X, rfl, hX, f2, f4, hw⟩
 have shw := hw.size
 have hXl := X.2
 have hq : carryS X = r := by rw [hX]; exact hr
 first | refine zf ?_ | refine zg ?_
 refine zs ?_
 refine wl_r (o_loadag Tryz.isAgg173 Tryz.sizeOf173 rfl f2 vI10) ?_
 refine wl_call rfl (C_f3carry _ hq) ?_
 rintro v20 w20 ⟨rfl, b20⟩
 have s20 := b20.size
 replace hw := hw.trans (b20.mono hw.size)
 replace f4 := f4.u b20
 replace f2 := f2.u b20
 refine wl_stIa Tryz.sizeOf173 rfl f4 rfl (by omega) (by rfl) ?_
 rintro w_1 f g e
 have s := g.size
 replace hw := hw.trans (below_of_grownBy g.g hw.size (by omega))
 replace f2 := f2.k g.g (ap_some (by omega))
 clear f4
 refine wl_nil ?_
 refine ret_cell rfl rfl Tryz.isAgg173 Tryz.sizeOf173 (by assumption) (by first | exact vI10 | exact b32 | exact ptC_len _ | exact frC_len _ | rfl) ?_
 exact ⟨rfl, hw⟩
set_option maxRecDepth 100000 in
theorem C_f3Minus {x y r : W10} (w : World) (hr : minusS x y = r) :
  CallsR Tryz.prog 173 [.agg (vI x.1).toArray, .agg (vI y.1).toArray] w fun v w' => v = .agg (vI r.1).toArray ∧ Below w.heap.size w w' := by
 have hx := x.2
 have hy := y.2
 refine callsR Tryz.func173 rfl rfl (by kernel_rfl) rfl ?_
 have hw := Below.refl w.heap.size w
 refine zs ?_
 refine wl_boxg _ rfl (by rfl) ?_
 rintro g2 w2 f2 b2 i2 i2_1
 have s2 := b2.size
 replace hw := hw.trans (b2.mono hw.size)
 refine wl_boxg _ rfl (by rfl) ?_
 rintro g3 w3 f3 b3 i3 i3_1
 have s3 := b3.size
 replace hw := hw.trans (b3.mono hw.size)
 replace f2 := f2.u b3
 refine wl_allocg [_, _, _, _, _, _, _, _, _, _] Tryz.zeroValue173 (by rfl) ?_
 rintro g4 w4 f4 b4 i4 i4_1
 have s4 := b4.size
 replace hw := hw.trans (b4.mono hw.size)
 replace f2 := f2.u b4
 replace f3 := f3.u b4
 refine wl_nil (rk_seq (zs (za rfl (wl_nil (rk_block ?_)))))
 have hg23 : g2 < g3 := by omega
 have hg34 : g3 < g4 := by omega
 refine rk_joinf (fun fb fr V => ∃ (X : W10), fr = [] ++ fb.drop 1 ∧ X = foldN (mnI y) 10 x ∧ Blk V g2 173 (vI X.1) ∧ Blk V g4 173 (vI (List.replicate 10 0)) ∧ Below w.heap.size w V) ?_ (fun ks hj => ?_)
 rotate_left
 ·refine rk_loopf (fun fb k fr V => ∃ (i : Nat) (v : Int) (X : W10), fr = [(5, .int .i64 v)] ++ fb.drop 1 ∧ v = i ∧ i ≤ 10 ∧ k = 10 - i ∧ X = foldN (mnI y) i x ∧ Blk V g2 173 (vI X.1) ∧ Blk V g3 173 (vI y.1) ∧ Blk V g4 173 (vI (List.replicate 10 0)) ∧ Below w.heap.size w V) (n := 10) (Fr.le_of (by kernel_rfl) (by kernel_rfl) (by repeat' constructor)) ⟨0, _, x, rfl, rfl, by omega, rfl, rfl, f2, f3, f4, hw⟩ ?_
  clear f2 f3 f4 hw
  rintro k fr V ⟨i, v, X, rfl, rfl, hi, rfl, hX, f2, f3, f4, hw⟩
  have shw := hw.size
  have hXl := X.2
  have hXs : foldN (mnI y) (i + 1) x = mnI y X i := by rw [hX]; rfl
  have hbt := bt_le i
  obtain ⟨M, hM⟩ : ∃ M, mnP i = M := ⟨_, rfl⟩
  first | refine zf ?_ | refine zg ?_
  by_cases hil : i < 10
  ·refine rk_seq ?_
   refine zs (zm rfl ?_)
   refine zp (o_lt rfl rfl) ?_
   refine wl_nil ?_
   refine rk_if rfl (fun h8 => ?_) (fun h8 => h8.elim (by omega))
   refine rk_skip (rk_seq (rk_block (zs (zm rfl ?_))))
   refine wl_call rfl (C_f3bits _ rfl (by omega)) ?_
   rintro v12 w12 ⟨rfl, b12⟩
   have s12 := b12.size
   replace hw := hw.trans (b12.mono hw.size)
   replace f4 := f4.u b12
   replace f3 := f3.u b12
   replace f2 := f2.u b12
   refine zp (o_shlI (bt i) rfl rfl rfl (by omega)) ?_
   refine zp (o_subI rfl rfl) ?_
   refine za rfl (wl_nil (rk_seq (zs (zm rfl ?_))))
   refine zp (o_eq rfl rfl) ?_
   refine wl_nil ?_
   refine rk_joinkq (fun fb fr V' => fr = [(6, .int .i64 M)] ++ fb.drop 4 ∧ V' = w12) ?_ (fun ks hj => ?_)
   rotate_left
   ·unfold mnP at hM
    by_cases h0 : i = 0
    ·rw [if_pos h0] at hM
     refine rk_if rfl (fun h16 => ?_) (fun h16 => h16.elim (by omega))
     refine rk_region (zm rfl ?_)
     refine zp (o_subI rfl rfl) ?_
     refine za rfl (wl_nil ?_)
     rw [hM]
     exact rk_tof hj (Fr.le_of (by kernel_rfl) (by kernel_rfl) (by repeat' constructor)) ⟨rfl, rfl⟩
    ·rw [if_neg h0] at hM
     refine rk_if rfl (fun h16 => absurd h16 (by omega)) (fun h16 => ?_)
     refine rk_skip ?_
     rw [hM]
     exact rk_tof hj (Fr.le_of (by kernel_rfl) (by kernel_rfl) (by repeat' constructor)) ⟨rfl, rfl⟩
   rintro fr V' ⟨rfl, rfl⟩
   first | refine zf ?_ | refine zg ?_
   refine rk_draw (id := 7) (none) [0, 0, 2, 4, 0, 16, 40, 0, 128, 256, 576, 2047, 4095] [0, 0, 2, 6, 0, 16, 62, 0, 128, 384, 1022, 2047, 4095] 4096 0 [(.p, 0), (.p, 1), (.p, 2), (.r, 3), (.p, 4), (.p, 5), (.p, 6), (.p, 7), (.p, 8), (.r, 9), (.p, 10), (.p, 11), (.l, 12)] (by kernel_rfl) (by kernel_rfl) (by kernel_rfl) (by kernel_rfl) (by kernel_rfl) ?_
   replace hw := hw.drew
   replace f2 := f2.d
   replace f3 := f3.d
   replace f4 := f4.d
   refine zm rfl (zm rfl ?_)
   refine zp (o_iaddrP (i) Tryz.underlying173 Tryz.sizeOf2 rfl rfl rfl (by omega)) ?_
   refine wl_r (o_ldI Tryz.isAgg2 rfl f2 (by omega)) ?_
   refine zm rfl ?_
   refine zp (o_mulI rfl rfl) ?_
   refine zp (o_addI rfl rfl) ?_
   refine zm rfl ?_
   refine zp (o_iaddrP (i) Tryz.underlying173 Tryz.sizeOf2 rfl rfl rfl (by omega)) ?_
   refine wl_r (o_ldI Tryz.isAgg2 rfl f3 (by omega)) ?_
   refine zp (o_subI rfl rfl) ?_
   refine zp (o_iaddrP (i) Tryz.underlying173 Tryz.sizeOf2 rfl rfl rfl (by omega)) ?_
   refine wl_stI Tryz.sizeOf2 rfl f2 rfl (by omega) ?_
   rintro w_1 f g e
   simp only [drew_size] at e
   have s := g.size
   simp only [drew_size] at s
   replace hw := hw.trans (below_of_grownBy g.g hw.size (by omega))
   replace f4 := f4.k g.g (ap_some (by omega))
   replace f3 := f3.k g.g (ap_some (by omega))
   clear f2
   refine wl_nild ?_
   refine rk_blk ?_
   refine rk_region (zm rfl ?_)
   refine zp (o_add rfl rfl (by omega) (by omega)) ?_
   refine za rfl (wl_nil ?_)
   exact rk_againf (Fr.le_of (by kernel_rfl) (by kernel_rfl) (by repeat' constructor)) ⟨i + 1, (i : Int) + 1, _, rfl, by omega, by omega, rfl, rfl, by rw [hXs]; unfold mnI; rw [hM]; assumption, f3, f4, hw⟩ (by omega)
  ·refine rk_seq ?_
   refine zs (zm rfl ?_)
   refine zp (o_lt rfl rfl) ?_
   refine wl_nil ?_
   refine rk_if rfl (fun h8 => absurd h8 (by omega)) (fun h8 => ?_)
   refine rk_exit rfl ?_
   obtain rfl : i = 10 := by omega
   exact rk_tof hj (Fr.le_of (by kernel_rfl) (by kernel_rfl) (by repeat' constructor)) ⟨X, rfl, hX, f2, f4, hw⟩
 clear f2 f3 f4 hw
 rintro fr V ⟨X, rfl, hX, f2, f4, hw⟩
 have shw := hw.size
 have hXl := X.2
 have hq : carryS X = r := by rw [hX]; exact hr
 first | refine zf ?_ | refine zg ?_
 refine zs ?_
 refine wl_r (o_loadag Tryz.isAgg173 Tryz.sizeOf173 rfl f2 vI10) ?_
 refine wl_call rfl (C_f3carry _ hq) ?_
 rintro v32 w32 ⟨rfl, b32⟩
 have s32 := b32.size
 replace hw := hw.trans (b32.mono hw.size)
 replace f4 := f4.u b32
 replace f2 := f2.u b32
 refine wl_stIa Tryz.sizeOf173 rfl f4 rfl (by omega) (by rfl) ?_
 rintro w_1 f g e
 have s := g.size
 replace hw := hw.trans (below_of_grownBy g.g hw.size (by omega))
 replace f2 := f2.k g.g (ap_some (by omega))
 clear f4
 refine wl_nil ?_
 refine ret_cell rfl rfl Tryz.isAgg173 Tryz.sizeOf173 (by assumption) (by first | exact vI10 | exact b32 | exact ptC_len _ | exact frC_len _ | rfl) ?_
 exact ⟨rfl, hw⟩
end Go.Proofs.YtahkeoegbjopfaaGreat
