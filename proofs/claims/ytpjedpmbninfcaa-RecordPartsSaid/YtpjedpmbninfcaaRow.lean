/-
  Rows of elements of any size: literals, append, parts; results of a cell and a slot; calls of function values.
-/
import Derived.Test.YtpjedpmbninfcaaOps4
namespace Go.Proofs.Ytpjedpmbninfcaa
open Go.RowKit

theorem foldl_set (o : Nat) : ∀ (vs : List Value) (i : Nat) (L : List Value), o + i + vs.length ≤ L.length →
    (vs.zipIdx i).foldl (fun (cs : Array Value) (x : Value × Nat) => cs.setIfInBounds (o + x.2) x.1) L.toArray = (spl L (o + i) vs).toArray
  | [], i, L, _ => by simp [spl]
  | v :: vs, i, L, hl => by
    simp only [List.length_cons] at hl
    rw [List.zipIdx_cons, List.foldl_cons]
    have ih := foldl_set o vs (i + 1) (L.set (o + i) v) (by simp; omega)
    simp only [List.setIfInBounds_toArray]
    rw [ih]
    congr 1
    have hlt : o + i < L.length := by omega
    simp only [spl, List.length_cons]
    rw [show o + (i + 1) = (o + i) + 1 from by omega, List.take_succ_eq_append_getElem (by simpa using hlt), List.take_set_of_le (Nat.le_refl _), List.drop_set_of_lt (by omega)]
    simp [Nat.add_comm, Nat.add_left_comm, Nat.add_assoc]
theorem fill_rangen {sz : Nat} {place : Nat → Option (Nat × Nat)} (hp : ∀ i, place i = some (i * sz, sz)) : ∀ (vs : List Value) (k : Nat) (cells : List Value), (∀ v ∈ vs, v.cells.size = sz) → (k + vs.length) * sz = cells.length →
    Instr.fill place cells.toArray ((List.range' k vs.length).zip vs) = some (cells.take (k * sz) ++ vs.flatMap fun v => v.cells.toList).toArray
  | [], k, cells, _, hl => by
    simp only [List.length_nil, Nat.add_zero] at hl
    simp [Instr.fill, hl]
  | v :: vs, k, cells, h1, hl => by
    have hv := h1 v (by simp)
    have hlen : k * sz + sz ≤ cells.length := by
      rw [← hl, List.length_cons, Nat.add_mul, Nat.add_mul]; omega
    have hsp := spl_length (L := cells) (vs := v.cells.toList) (k := k * sz) (by simp [hv]; omega)
    have ih := fill_rangen hp vs (k + 1) (spl cells (k * sz) v.cells.toList) (fun u hu => h1 u (by simp [hu])) (by rw [hsp, ← hl, List.length_cons]; congr 1; omega)
    simp only [List.length_cons, List.range'_succ, List.zip_cons_cons, Instr.fill, hp]
    rw [if_neg (by simp [hv]; omega)]
    have hf := foldl_set (k * sz) v.cells.toList 0 cells (by simp [hv]; omega)
    have e : v.cells.zipIdx.foldl (fun cs (x : Value × Nat) => match x with | (c, j) => cs.setIfInBounds (k * sz + j) c) cells.toArray = (spl cells (k * sz) v.cells.toList).toArray := by
      rw [← Array.foldl_toList, Array.toList_zipIdx]
      exact hf
    rw [e, ih]
    congr 2
    rw [List.flatMap_cons, ← List.append_assoc]
    congr 1
    rw [Nat.add_mul, Nat.one_mul, spl, List.take_append_of_le_length (by simp; omega)]
    have h5 : (List.take (k * sz) cells ++ v.cells.toList).length = k * sz + sz := by rw [List.length_append, List.length_take, Nat.min_eq_left (by omega)]; simp [hv]
    rw [← h5, List.take_length]
theorem run_litn {P : Program} {w : World} {t e : TypeId} {z : Value} {sz : Nat} (hu : P.underlying t = some (.slice e)) (hs : ∀ w, (sizeOf e).run P w = .ok sz w) (hz : ∀ w, (zeroValue e).run P w = .ok z w) (vs : List Value) (h1 : ∀ v ∈ vs, v.cells.size = sz) (hn : vs.length * sz ≤ 16777216) :
    (Instr.buildSlice t vs.length ((List.range' 0 vs.length).zip vs).toArray).run P w = .ok (.slice (some ⟨w.heap.size, 0, none⟩) vs.length vs.length) (w.alloc (.cells (vs.flatMap fun v => v.cells.toList).toArray e)) := by
  have hf : ∀ (cells : Array Value), cells.size = vs.length * sz → Instr.fill (fun i => some (i * sz, sz)) cells ((List.range' 0 vs.length).zip vs) = some (vs.flatMap fun v => v.cells.toList).toArray := fun cells hc => by
    have := fill_rangen (place := fun i => some (i * sz, sz)) (fun _ => rfl) vs 0 cells.toList h1 (by simp [hc])
    simpa using this
  have hn' : ¬ (16777216 < vs.length * sz) := by omega
  by_cases hv : vs.length * sz = 0
  · have h2 := hf #[] (by simp [hv])
    simp [Instr.buildSlice, run_underlying hu, hs, hv, newRow, newObj, Sem.run, show Array.range 0 = #[] from rfl, h2]
  · have h2 := hf (Array.map (fun x => z.cells[x % z.cells.size]!) (Array.range (vs.length * sz))) (by simp)
    simp [Instr.buildSlice, run_underlying hu, hs, hz, hn', hv, newRow, newObj, Sem.run, h2]

/-- What a row's element type must be. -/
structure RowT (P : Program) (t e : TypeId) (z : Value) (sz bytes : Nat) : Prop where
  ht : P.underlying t = some (.slice e)
  hi : (P.info? e).map (fun i => (i.zero, i.size, i.bytes)) = some (some z, sz, bytes)
  hz : z.cells.size = sz
  h0 : 0 < sz

section
variable {w w' : World} {sz n : Nat} {A : Option Addr} {xs : List Value}
theorem Reads.cutn (h : Reads w sz A n xs) {k m cap : Nat} (hk : k ≤ n) (hc : n ≤ cap) (hm : m = n - k) : Reads w sz (cutA A cap sz k) m (xs.drop (k * sz)) := by
  subst hm
  have hl := h.1
  refine ⟨by rw [List.length_drop, hl, Nat.sub_mul], fun hn => ?_⟩
  have hkn : k * sz < xs.length := by
    rcases Nat.lt_or_ge (k * sz) xs.length with h1 | h1
    · exact h1
    · exact absurd (List.drop_eq_nil_of_le h1) hn
  obtain ⟨b, o, rfl, hcell⟩ := h.2 (by intro e; rw [e] at hkn; simp at hkn)
  have hkn' : k < n := by
    rw [hl] at hkn
    exact Nat.lt_of_mul_lt_mul_right hkn
  unfold cutA
  rw [if_neg (by omega)]
  refine ⟨b, o + k * sz, by simp [add_plain], fun j u hu => ?_⟩
  rw [Nat.add_assoc]
  exact hcell _ u (by rw [← hu, List.getElem?_drop])
theorem Reads.taken (h : Reads w sz A n xs) {k : Nat} (hk : k ≤ n) : Reads w sz A k (xs.take (k * sz)) := by
  have hl := h.1
  refine ⟨by rw [List.length_take, hl]; exact Nat.min_eq_left (Nat.mul_le_mul_right _ hk), fun hn => ?_⟩
  obtain ⟨b, o, rfl, hcell⟩ := h.2 (by intro e; simp [e] at hn)
  refine ⟨b, o, rfl, fun j u hu => hcell _ u ?_⟩
  rw [List.getElem?_take] at hu
  split at hu
  · exact hu
  · cases hu
end

section
variable {P : Program} (w : World)
theorem run_append_zeros (t ti ty e : TypeId) (i : TypeInfo) (z : Value) (ht : P.underlying t = some (.slice e)) (hti : P.underlying ti = some (.int .i64)) (hi : P.info? e = some i) (hz : i.zero = some z) (hzs : z.cells.size = i.size) (h0 : 0 < i.size) (m : Nat) (hm : 0 < m) (h63 : m ≤ 9223372036854775807) (hb : m * i.bytes ≤ 281474976710656) :
    (Builtin.append_ #[t, ti] ty #[.slice none 0 0, .int .i64 m]).run P w =
      .ok (.slice (some ⟨w.heap.size, 0, none⟩) m (grownCap w m 0 e)) (w.drew.alloc (.cells (Builtin.zeroCells z.cells m ++ Builtin.zeroCells z.cells (grownCap w m 0 e - m)) e)) := by
  have hn : m ≠ 0 := by omega
  have h63' : ¬ (9223372036854775807 < (m : Int)) := by omega
  have h48' : ¬ (281474976710656 < Builtin.nextslicecap m 0 * i.bytes) := by rw [nextslicecap_zero hm]; omega
  have hw : IntKind.i64.wrap (m : Int) = m := i64_in (by omega) (by omega)
  have hb' : ¬ (281474976710656 < (m : Int) * (i.bytes : Int)) := by
    have : (m : Int) * (i.bytes : Int) = ((m * i.bytes : Nat) : Int) := by simp
    omega
  have hms : m * i.size ≠ 0 := Nat.mul_ne_zero hn (by omega)
  have hneg : ¬ ((m : Int) < 0) := by omega
  simp [Builtin.append_, run_underlying ht, run_underlying hti, sizeOf, typeInfo, zeroValue, hi, hz, asInt, asIntOf, hw, hn, h63', h48', hb', hms, hneg, Question.forced, run_firstCells_none, newRow, grownCap]
end

section
variable {P : Program} {fn : Func} {F : Ending → World → Prop} {N : Nat} {ks : List K} {ops : Array Oper} {tg : Tags} {l : List Oper} {fr : Fr} {w : World} {ty t t2 e : TypeId} {z : Value} {sz bytes : Nat} {pos : String} {aft : Array Edge} {gd : Option (Nat × Bool)} {d g : Nat} {x y k : Operand}
/-- append(x, y...): x the call's own. -/
theorem wl_appn (T : RowT P t e z sz bytes) {B : Nat} {A X : Option Addr} {n c j q : Nat} {xs ms : List Value} (hx : fr.ev x = some (.slice A n c)) (hown : w.ownsRow B e sz (.slice A n c) n xs) (hy : fr.ev y = some (.slice X j q)) (hr : Reads w sz X j ms) (h1 : ∀ u ∈ ms, u.oneCell' = true)
    (h63 : n + j ≤ maxLen) (hlen : (n + j) * bytes ≤ 140737488355328) (hB : B ≤ w.heap.size)
    (h : ∀ A' c' w', w'.ownsRow B e sz (.slice A' (n + j) c') (n + j) (xs ++ ms) → w.grownBy w' (blk A) → (blk A' = blk A ∨ blk A' = some w.heap.size) → Below B w w' → WL P fn F N ks ops tg.tail l ((d, .slice A' (n + j) c') :: fr) w')
    (ht : tg.loud = true := by rfl) (hg : onG ops fr gd = true := by rfl) (hd : Nat.blt d N = true := by rfl) (hq : tg.calm = false ∨ blk A = none ∨ blk A = tg.row := by exact .inl rfl) :
    WL P fn F N ks ops tg (⟨some d, .call { callee := .builtin .append, args := #[x, y], argTypes := #[t, t] }, ty, pos, aft, gd⟩ :: l) fr w := by
  obtain ⟨i, hi, hz, hs, hb⟩ := info_parts T.hi
  obtain ⟨v', w', hrun, h2, h3, h4⟩ := run_append_any (P := P) w B t ty e i z sz bytes T.ht hi hz hs hb T.hz T.h0 (.slice A n c) n xs hown X j q ms hr h1 h63 hlen hB
  obtain ⟨A', c', rfl⟩ := ownsRow_shape h2
  rw [blk_own] at h3 h4
  rw [blk_own] at h4
  have hlt : ∀ b, blk A = some b → B ≤ b ∧ b < w.heap.size := fun b hb => World.ownsRow.lt hown b (by rw [blk_own]; exact hb)
  exact wl_v (o_builtin (xs := [x, y]) (vs := [.slice A n c, .slice X j q]) (by simp [Fr.evs, hx, hy]) (by simp [builtin, hrun]) (by simp)) (h A' c' w' h2 h3 h4 ((Below.refl B w).grown h3 hB (fun b hb => (hlt b hb).1))) ht hg hd
    (hq.imp id fun e => e.elim (fun e => grown_wide (e ▸ h3) _) (fun e => e ▸ h3))
/-- A slice literal, all its elements in order. -/
theorem wl_litn {xs : List Operand} {vs : List Value} (T : RowT P t e z sz bytes) (hs : ∀ w, (sizeOf e).run P w = .ok sz w) (hz : ∀ w, (zeroValue e).run P w = .ok z w) (n : Nat) (hx : fr.evs xs = some vs) (hn : vs.length = n) (h1 : ∀ v ∈ vs, v.cells.size = sz) (hm : Nat.ble (n * sz) 1000000 = true)
    (hk : ∀ w', (∀ B, B ≤ w.heap.size → w'.ownsRow B e sz (.slice (some ⟨w.heap.size, 0, none⟩) n n) n (vs.flatMap fun v => v.cells.toList)) → Below w.heap.size w w' → w'.heap.size = w.heap.size + 1 → WL P fn F N ks ops tg.tail l ((d, .slice (some ⟨w.heap.size, 0, none⟩) n n) :: fr) w')
    (ht : tg.loud = true := by rfl) (hg : onG ops fr gd = true := by rfl) (hd : Nat.blt d N = true := by rfl) : WL P fn F N ks ops tg (⟨some d, .buildSlice t n ((List.range' 0 n).zip xs).toArray, ty, pos, aft, gd⟩ :: l) fr w := by
  subst hn
  have hm' : vs.length * sz ≤ 1000000 := by simpa using hm
  have hr := run_litn (P := P) (w := w) T.ht hs hz vs h1 (by omega)
  have hfl : (vs.flatMap fun v => v.cells.toList).length = vs.length * sz := by
    clear hr hm hm' hk hx
    induction vs with
    | nil => simp
    | cons v vs ih => simp only [List.flatMap_cons, List.length_append, List.length_cons, Array.length_toList, h1 v (by simp), ih (fun u hu => h1 u (by simp [hu])), Nat.add_mul]; omega
  have hlen : vs.length ≤ 1000000 := by
    have h0 := T.h0
    exact Nat.le_trans (Nat.le_mul_of_pos_right _ h0) hm'
  exact wl_v (o_lit hx hr) (hk _ (fun B hB => ⟨hfl, .inr ⟨w.heap.size, vs.length, _, rfl, hB, heap_alloc_new w _, Nat.le_refl _, by simp only [maxLen]; omega, by simpa using hfl, by rw [← hfl]; exact List.take_length⟩⟩) (below_alloc w _) (by simp)) ht hg hd (.inr (grown_of_below (below_alloc w _) _))
/-- append(nil, make([]T, m)...): the room alone is kept. -/
theorem wl_appz {ti : TypeId} {m : Nat} {v : Int} (T : RowT P t e z sz bytes) (hti : P.underlying ti = some (.int .i64)) (hx : fr.ev x = some (.slice none 0 0)) (hy : fr.ev y = some (.int .i64 v)) (hv : v = (m : Int)) (hm : 0 < m) (h63 : m ≤ 1000000000) (hb : m * bytes ≤ 281474976710656)
    (hk : ∀ w' c, (∀ B, B ≤ w.heap.size → w'.ownsRow B e sz (.slice (some ⟨w.heap.size, 0, none⟩) 0 c) 0 []) → m ≤ c → Below w.heap.size w w' → WL P fn F N ks ops tg.tail l ((d, .slice (some ⟨w.heap.size, 0, none⟩) m c) :: fr) w')
    (ht : tg.loud = true := by rfl) (hg : onG ops fr gd = true := by rfl) (hd : Nat.blt d N = true := by rfl) :
    WL P fn F N ks ops tg (⟨some d, .call { callee := .builtin .append, args := #[x, y], argTypes := #[t, ti] }, ty, pos, aft, gd⟩ :: l) fr w := by
  subst hv
  obtain ⟨i, hi, hz, hs, hb'⟩ := info_parts T.hi
  have hrun := run_append_zeros (P := P) w t ti ty e i z T.ht hti hi hz (by rw [T.hz, hs]) (by rw [hs]; exact T.h0) m hm (by omega) (by rw [hb']; exact hb)
  have hge := grownCap_ge w m 0 e
  have hcm : grownCap w m 0 e ≤ maxLen := grownCap_le_maxLen w m 0 e (by simp only [maxLen]; omega)
  have hbl : Below w.heap.size w (w.drew.alloc (.cells (Builtin.zeroCells z.cells m ++ Builtin.zeroCells z.cells (grownCap w m 0 e - m)) e)) := ((Below.refl w.heap.size w).drew.alloc (Nat.le_refl _) _)
  refine wl_v (o_builtin (xs := [x, y]) (vs := [.slice none 0 0, .int .i64 m]) (by simp [Fr.evs, hx, hy]) (by simp [builtin, hrun]) (by simp))
    (hk _ _ (fun B hB => ⟨by simp, .inr ⟨w.heap.size, _, _, rfl, hB, heap_alloc_new w.drew _, Nat.zero_le _, hcm, ?_, by simp⟩⟩) hge hbl) ht hg hd (.inr (grown_of_below hbl _))
  simp only [Array.size_append, size_zeroCells, T.hz, ← Nat.add_mul]
  congr 1
  omega
/-- A result in a cell and one in a slot. -/
theorem ret_cell_tmp {p q n : Nat} {cs : List Value} {v : Value} {t' : TypeId} {R : Value → World → Prop} (h : fn.results = #[.cell p t, .tmp q]) (hp : fr.get p = some (.pointer (some ⟨g, 0, none⟩))) (hv : fr.get q = some v) (ha' : ∀ w, (isAgg t).run P w = .ok true w) (hs : ∀ w, (sizeOf t).run P w = .ok n w)
    (hB : Blk w g t' cs) (hn : cs.length = n) (hR : R (.tuple #[.agg cs.toArray, v]) w) : RK P fn (fun e w' => ∃ v, e = .returned v ∧ R v w') N (.code .ret :: ks) fr w :=
  rk_ret (F := fun e w' => ∃ v, e = .returned v ∧ R v w') (fun a ha => ⟨.tuple #[.agg cs.toArray, v], by
    have hp' : a.tmps[p]?.getD undef = .pointer (some ⟨g, 0, none⟩) := by rw [ha.get p _ hp]; rfl
    have hv' : a.tmps[q]?.getD undef = v := by rw [ha.get q _ hv]; rfl
    subst hn
    have hl : (loadCells ⟨g, 0, none⟩ cs.length).run P w = .ok cs.toArray w := run_loadCells_list (P := P) w ⟨g, 0, none⟩ cs (fun j u hu => by rw [add_plain, hB.cell, Nat.zero_add]; exact hu)
    simp [results, h, hp', hv', asAddr, loadVar, ha', hs, hl], ⟨_, rfl, hR⟩⟩)
/-- A function value that closes over variables. -/
theorem o_makeFunc {f : FuncId} {xs : List Operand} {vs : List Value} (hx : fr.evs xs = some vs) : OpV P N fr w (.makeFunc (.func f) #[] xs.toArray) ty (.func (.func f) #[] vs.toArray) w := fun a ha o ho _ => by
  have hargs : Array.map a.eval xs.toArray = vs.toArray := by rw [List.map_toArray, ha.evs hx]
  simp [execOp, ho, hargs, Instr.makeFunc]
theorem run_callf {ρ : Operand → Value} {f : FuncId} (hB : Bodied P f) {q : Operand} {xs : Array Operand} {ts : Array TypeId} {vs cs : Array Value} (hv : xs.map ρ = vs) (hρ : ρ q = .func (.func f) #[] cs) (o : Oper)
    (ho : o.op = .call { callee := .value q, args := xs, argTypes := ts }) : (execOp ρ o).run P w = .ok (.enter f (vs ++ cs)) w := by
  obtain ⟨g, h1, h2, h3⟩ := hB
  simp [execOp, ho, resolve, invoke, hρ, hv, Deferred.ofValue, callFunc, h1]
  rw [if_neg (by simpa using h3), if_neg (by intro e; rw [e] at h2; cases h2)]
theorem wl_callf {f : FuncId} {q : Operand} {xs : List Operand} {ts : Array TypeId} {vs cs : List Value} {R : Value → World → Prop} (hq0 : fr.ev q = some (.func (.func f) #[] cs.toArray)) (hx : fr.evs xs = some vs) (hc : CallsR P f (vs ++ cs) w R) (hk : ∀ v w', R v w' → WL P fn F N ks ops tg.tail l ((d, v) :: fr) w')
    (ht : tg.loud = true := by rfl) (hg : onG ops fr gd = true := by rfl) (hd : Nat.blt d N = true := by rfl) (hq : tg.calm = false ∨ ∀ v w', R v w' → w.grownBy w' tg.row := by exact .inl rfl) :
    WL P fn F N ks ops tg (⟨some d, .call { callee := .value q, args := xs.toArray, argTypes := ts }, ty, pos, aft, gd⟩ :: l) fr w :=
  fun a ha => left_loud ht fun K hK => by
    rw [if_pos (wanted_on (o := ⟨some d, .call { callee := .value q, args := xs.toArray, argTypes := ts }, ty, pos, aft, gd⟩) ha hg)]
    have hargs : Array.map a.eval xs.toArray = vs.toArray := by rw [List.map_toArray, ha.evs hx]
    unfold Oper.wp
    rw [run_callf hc.1 hargs (ha.ev hq0) _ rfl]
    have hc2 := hc.2
    rw [← List.append_toArray] at hc2
    refine Calls.mono hc2 ?_
    rintro e w' ⟨v, rfl, hr⟩
    exact hK _ _ (hq.imp id fun h => Rw.of (h v w' hr)) (hk v w' hr _ (ha.put hd v))
end
end Go.Proofs.Ytpjedpmbninfcaa
