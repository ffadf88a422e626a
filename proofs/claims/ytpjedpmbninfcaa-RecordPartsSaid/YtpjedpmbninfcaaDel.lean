/-
  Parts of a row of the call's own put together in place, and cells set to zero; results in cells and slots. No function of the program is named here.
-/
import Derived.Test.YtpjedpmbninfcaaRs
namespace Go.Proofs.Ytpjedpmbninfcaa
open Go.RowKit
section
variable {P : Program} {w : World} {lo hi sz n c bytes : Nat} {t ty e : TypeId} {z : Value} {A : Option Addr} {xs : List Value}
theorem zeroCells_mem {zs : Array Value} (h1 : zs.all (fun v => v.oneCell') = true) (h0 : 0 < zs.size) (m : Nat) : ∀ v ∈ (Builtin.zeroCells zs m).toList, v.oneCell' = true := by
  intro v hv
  simp only [Builtin.zeroCells, Array.toList_map, List.mem_map] at hv
  obtain ⟨i, _, rfl⟩ := hv
  have hlt : i % zs.size < zs.size := Nat.mod_lt _ h0
  rw [getElem!_pos zs _ hlt]
  exact Array.all_eq_true.1 h1 _ hlt
/-- 'clear' on what lies behind the row's elements. -/
theorem run_clearR (T : RowT P t e z sz bytes) (hz : ∀ w, (zeroValue e).run P w = .ok z w) (h1 : z.cells.all (fun v => v.oneCell') = true) (hown : RowH w lo hi e sz A n c xs) {k m c' : Nat} (hk : n ≤ k) (hm : k + m ≤ c) :
    ∃ w', (Builtin.clear_ #[t] ty #[.slice (cutA A c sz k) m c']).run P w = .ok (.tuple #[]) w' ∧ RowH w' lo hi e sz A n c xs ∧ Grew w w' e (blk A) := by
  have hT := hown.ty
  rcases Nat.eq_zero_or_pos m with h0 | h0
  · subst h0
    refine ⟨w, ?_, hown, ⟨World.grownBy.refl w _, hT⟩⟩
    cases cutA A c sz k <;> simp [Builtin.clear_, run_underlying T.ht]
  · have ho := hown.o
    rcases ho.2 with ⟨hv, hn0⟩ | ⟨g, cap, cur, hv, hbg, hg, hnc, hcm, hcs, htake⟩
    · injection hv with _ _ e3
      omega
    · injection hv with e1 _ e3
      subst e1; subst e3
      have hB : Blk w g e cur.toList := by unfold Blk; rw [Array.toArray_toList]; exact hg
      have hzl : (Builtin.zeroCells z.cells m).toList.length = m * sz := by simp [Builtin.zeroCells, T.hz]
      have hcl : cur.toList.length = c * sz := by rw [Array.length_toList, hcs]
      have hroom : (k + m) * sz ≤ c * sz := Nat.mul_le_mul_right _ hm
      rw [Nat.add_mul] at hroom
      obtain ⟨w', hr, hB', hgr, _⟩ := run_storeCells_blk (P := P) (o := k * sz) (Builtin.zeroCells z.cells m).toList 0 cur.toList w hB (zeroCells_mem h1 (by rw [T.hz]; exact T.h0) m) (by rw [hzl, hcl]; omega)
      have hcut : cutA (some ⟨g, 0, none⟩) c sz k = some ⟨g, k * sz, none⟩ := by
        unfold cutA; rw [if_neg (by omega)]; simp [add_plain]
      obtain ⟨m', rfl⟩ : ∃ m', m = m' + 1 := ⟨m - 1, by omega⟩
      have hnk : n * sz ≤ k * sz := Nat.mul_le_mul_right _ hk
      refine ⟨w', ?_, ⟨⟨ho.1, .inr ⟨g, c, _, rfl, hbg, hB', hnc, hcm, ?_, ?_⟩⟩, hown.hi⟩, ⟨hgr, hT⟩⟩
      · rw [hcut]
        simp [Builtin.clear_, run_underlying T.ht, hz, hr]
      · rw [List.size_toArray, spl_length (by rw [hzl, hcl]; omega), hcl]
      · rw [← htake, Nat.add_zero]
        simp only [spl]
        rw [List.append_assoc, List.take_append_of_le_length (by rw [List.length_take, hcl]; omega), List.take_take, Nat.min_eq_left hnk]
/-- append where there is room. -/
theorem run_appFit (T : RowT P t e z sz bytes) (hown : RowH w lo hi e sz A n c xs) {X : Option Addr} {m q : Nat} {ms : List Value} (hr : Reads w sz X m ms) (h1 : ∀ u ∈ ms, u.oneCell' = true) (hroom : n + m ≤ c) :
    ∃ w', (Builtin.append_ #[t, t] ty #[.slice A n c, .slice X m q]).run P w = .ok (.slice A (n + m) c) w' ∧ RowH w' lo hi e sz A (n + m) c (xs ++ ms) ∧ Grew w w' e (blk A) := by
  have hT := hown.ty
  obtain ⟨i, hi', hz, hs, hb⟩ := info_parts T.hi
  have ho := hown.o
  by_cases hm : ms = []
  · subst hm
    have hm0 : m = 0 := by
      have := hr.1
      rw [List.length_nil] at this
      rcases Nat.mul_eq_zero.1 this.symm with h2 | h2
      · exact h2
      · have := T.h0; omega
    subst hm0
    refine ⟨w, ?_, by simpa using hown, ⟨World.grownBy.refl w _, hT⟩⟩
    have hst : ∀ a : Addr, (storeCells a [] 0).run P w = .ok () w := fun a => by simp [storeCells]
    have hf : (Builtin.firstCells i.size 0 (.slice X 0 q)).run P w = .ok #[] w := by cases X <;> simp [Builtin.firstCells, loadCells, loadCellsFrom]
    have hnc : n ≤ c := hown.cap
    cases A <;> simp [Builtin.append_, run_underlying T.ht, sizeOf, typeInfo, hi', Builtin.lenOf, hf, storeCells, hnc]
  · obtain ⟨ad, rfl, hcell⟩ := hr.add hm
    have hm0 : 0 < m := by
      rcases Nat.eq_zero_or_pos m with h2 | h2
      · subst h2; exact absurd (List.eq_nil_of_length_eq_zero (by rw [hr.1]; simp)) hm
      · exact h2
    rcases ho.2 with ⟨hv, hn0⟩ | ⟨g, cap, cur, hv, hbg, hg, hnc, hcm, hcs, htake⟩
    · injection hv with _ _ e3
      omega
    · injection hv with e1 _ e3
      subst e1; subst e3
      obtain ⟨w', hrun, r1, r2⟩ := run_append_fits (P := P) (w := w) lo t ty e i sz T.ht hi' hs g n c xs ho ad m q ms hr.1 hcell h1 hroom
      exact ⟨w', hrun, ⟨r1, hown.hi⟩, ⟨r2, hT⟩⟩
end
section
variable {α : Type} {X : GoT α} {e : TypeId} {w : World} {lo hi c : Nat} {A : Option Addr} {L : List α}
theorem part_take {xs : List Value} {m i k : Nat} (hi : i < k) : part (xs.take (k * m)) m i = part xs m i := by
  unfold part
  have h1 : (i + 1) * m ≤ k * m := Nat.mul_le_mul_right _ hi
  rw [Nat.add_mul, Nat.one_mul] at h1
  rw [List.drop_take, List.take_take, Nat.min_eq_left (by omega)]
theorem part_drop {xs : List Value} {m i k : Nat} : part (xs.drop (k * m)) m i = part xs m (k + i) := by
  unfold part
  rw [List.drop_drop, Nat.add_mul]
theorem OwnS.take (h : OwnS X e w lo hi A c L) (k : Nat) (hk : k ≤ L.length) : OwnS X e w lo hi A c (L.take k) := by
  obtain ⟨xs, h1, h2⟩ := h
  have hl : (L.take k).length = k := by rw [List.length_take]; omega
  have hxl : xs.length = L.length * X.sz := h1.rd.1
  have hkx : k * X.sz ≤ L.length * X.sz := Nat.mul_le_mul_right _ hk
  refine ⟨xs.take (k * X.sz), ⟨?_, h1.hi⟩, fun i hi => ?_⟩
  · rw [hl]
    refine ⟨by rw [List.length_take, hxl, Nat.min_eq_left hkx], ?_⟩
    rcases h1.o.2 with ⟨hv, hn0⟩ | ⟨g, cap, cur, hv, h3, h4, h5, h6, h7, h8⟩
    · have h0 : k = 0 := by omega
      subst h0
      injection hv with e1 _ e3
      subst e1; subst e3
      exact .inl ⟨rfl, rfl⟩
    · injection hv with e1 _ e3
      subst e1; subst e3
      refine .inr ⟨g, c, cur, rfl, h3, h4, by omega, h6, h7, ?_⟩
      rw [← h8, List.take_take, Nat.min_eq_left hkx]
  · rw [hl] at hi
    rw [part_take hi, List.getElem_take]
    exact h2 i (by omega)
theorem OwnS.drop (h : OwnS X e w lo hi A c L) (k : Nat) (hk : k ≤ L.length) : RSlT X e w (cutA A c X.sz k) (L.drop k) := by
  have hc := h.cap
  obtain ⟨xs, h1, h2⟩ := h
  have hT := h1.ty
  refine ⟨xs.drop (k * X.sz), h1.rd.cutn hk hc (by rw [List.length_drop]), fun b hb => hT b ?_, fun i hi => ?_⟩
  · unfold cutA at hb
    split at hb
    · exact hb
    · rw [← hb]
      cases A with
      | none => rfl
      | some a => simp [blk, block_of_add]
  · rw [part_drop, List.getElem_drop]
    rw [List.length_drop] at hi
    exact h2 _ (by omega)
end
section
variable {α : Type} {X : GoT α} {P : Program} {fn : Func} {F : Ending → World → Prop} {N : Nat} {ks : List K} {ops : Array Oper} {tg : Tags} {l : List Oper} {fr : Fr} {w : World} {ty t e : TypeId} {z : Value} {pos : String} {aft : Array Edge} {gd : Option (Nat × Bool)} {d n bytes c j q lo hi k m c' : Nat} {x y : Operand} {A B : Option Addr} {L M : List α}
theorem wl_appFit (T : RowT P t e z X.sz bytes) (hx : fr.ev x = some (.slice A n c)) (hown : OwnS X e w lo hi A c L) (hn : n = L.length) (hy : fr.ev y = some (.slice B j q)) (hr : RSlT X e w B M) (hj : j = M.length) (hne : e ∉ X.tys) (h1 : ∀ w cs a, X.T w cs a → ∀ u ∈ cs, u.oneCell' = true) (hroom : L.length + M.length ≤ c)
    (h : ∀ w', OwnS X e w' lo hi A c (L ++ M) → Grew w w' e (blk A) → WL P fn F N ks ops tg.tail l ((d, .slice A (L ++ M).length c) :: fr) w')
    (ht : tg.loud = true := by rfl) (hg : onG ops fr gd = true := by rfl) (hd : Nat.blt d N = true := by rfl) (hq : tg.calm = false ∨ blk A = none ∨ blk A = tg.row := by exact .inl rfl) :
    WL P fn F N ks ops tg (⟨some d, .call { callee := .builtin .append, args := #[x, y], argTypes := #[t, t] }, ty, pos, aft, gd⟩ :: l) fr w := by
  subst hn; subst hj
  obtain ⟨xs, g1, g2⟩ := hown
  obtain ⟨ms, r1, r2, r3⟩ := hr
  have hxl : xs.length = L.length * X.sz := g1.rd.1
  have hml : ms.length = M.length * X.sz := r1.1
  obtain ⟨w', hrun, k1, k2⟩ := run_appFit (ty := ty) (q := q) T g1 r1 (fun u hu => by
    obtain ⟨i, hi, rfl⟩ := List.getElem_of_mem hu
    have h0 := T.h0
    have hq : i / X.sz < M.length := (Nat.div_lt_iff_lt_mul h0).2 (by omega)
    refine h1 _ _ _ (r3 _ hq) _ (List.mem_of_getElem? (i := i % X.sz) ?_)
    rw [part_get (Nat.mod_lt _ h0), Nat.div_add_mod' i X.sz]
    exact List.getElem?_eq_getElem hi) hroom
  have e2 : (L ++ M).length = L.length + M.length := List.length_append
  rw [← e2] at k1 hrun
  refine wl_v (o_builtin (xs := [x, y]) (vs := [.slice A L.length c, .slice B M.length q]) (by simp [Fr.evs, hx, hy]) (by simp [builtin, hrun]) (by simp)) (h w' ⟨_, k1, fun i hi => ?_⟩ k2) ht hg hd
    (hq.imp id fun e => e.elim (fun e => grown_wide (e ▸ k2.g) _) (fun e => e ▸ k2.g))
  rcases Nat.lt_or_ge i L.length with hl | hl
  · rw [part_append_lt hxl hl, List.getElem_append_left hl]
    exact X.ty (g2 i hl) k2 hne
  · rw [List.getElem_append_right hl]
    have hi2 : i - L.length < M.length := by rw [e2] at hi; omega
    have := X.ty (r3 _ hi2) k2 hne
    have e3 : part (xs ++ ms) X.sz i = part ms X.sz (i - L.length) := by
      unfold part
      rw [show i * X.sz = xs.length + (i - L.length) * X.sz by rw [hxl, ← Nat.add_mul]; congr 1; omega, ← List.drop_drop, List.drop_left]
    rw [e3]; exact this
theorem wl_clearS (T : RowT P t e z X.sz bytes) (hz : ∀ w, (zeroValue e).run P w = .ok z w) (h1 : z.cells.all (fun v => v.oneCell') = true) (hx : fr.ev x = some (.slice (cutA A c X.sz k) m c')) (hown : OwnS X e w lo hi A c L) (hk : L.length ≤ k) (hm : k + m ≤ c) (hne : e ∉ X.tys)
    (h : ∀ w', OwnS X e w' lo hi A c L → Grew w w' e (blk A) → WL P fn F N ks ops tg.tail l fr w')
    (ht : tg.loud = true := by rfl) (hg : onG ops fr gd = true := by rfl) (hq : tg.calm = false ∨ blk A = none ∨ blk A = tg.row := by exact .inl rfl) :
    WL P fn F N ks ops tg (⟨none, .call { callee := .builtin .clear, args := #[x], argTypes := #[t] }, ty, pos, aft, gd⟩ :: l) fr w := by
  obtain ⟨xs, g1, g2⟩ := hown
  obtain ⟨w', hrun, k1, k2⟩ := run_clearR (ty := ty) (c' := c') T hz h1 g1 hk hm
  exact wl_v0 (o_builtin (v := .tuple #[]) (xs := [x]) (vs := [.slice (cutA A c X.sz k) m c']) (by simp [Fr.evs, hx]) (by simp [builtin, hrun]) (by simp)) (h w' ⟨_, k1, fun i hi => X.ty (g2 i hi) k2 hne⟩ k2) ht hg
    (hq.imp id fun e => e.elim (fun e => grown_wide (e ▸ k2.g) _) (fun e => e ▸ k2.g))
theorem o_slice3S {N : Nat} {len cap sz : Nat} {kl kh km : IntKind} {L H M : Int} {y z u : Operand} (lo hi mx : Nat) (hu : P.underlying t = some (.slice e)) (hs : ∀ w, (sizeOf e).run P w = .ok sz w) (hx : fr.ev x = some (.slice A len cap)) (hy : fr.ev y = some (.int kl L)) (hz : fr.ev z = some (.int kh H)) (hq : fr.ev u = some (.int km M))
    (hl : L = (lo : Int)) (hh : H = (hi : Int)) (hm : M = (mx : Int)) (h1 : lo ≤ hi) (h2 : hi ≤ mx) (h3 : mx ≤ cap) : OpV P N fr w (.slice t x (some y) (some z) (some u)) ty (.slice (cutA A mx sz lo) (hi - lo) (mx - lo)) w := fun a ha op hop _ => by
  subst hl; subst hh; subst hm
  simp [execOp, hop, ha.ev hx, ha.ev hy, ha.ev hz, ha.ev hq, Instr.sliceAt, Instr.slice, Instr.sliceBounds, Instr.sliceBound, run_underlying hu, asIntOf, hs, h1, h2, h3, cutA]
end
/-- What the results are: in slots, in cells. -/
inductive Res (P : Program) (fr : Fr) (w : World) : List ResultVar → List Value → Prop where
  | nil : Res P fr w [] []
  | tmp {q : Nat} {v : Value} {rs : List ResultVar} {vs : List Value} (h : fr.get q = some v) (r : Res P fr w rs vs) : Res P fr w (.tmp q :: rs) (v :: vs)
  | cell {p n g : Nat} {t t' : TypeId} {cs : List Value} {rs : List ResultVar} {vs : List Value} (hp : fr.get p = some (.pointer (some ⟨g, 0, none⟩))) (ha' : ∀ w, (isAgg t).run P w = .ok true w) (hs : ∀ w, (sizeOf t).run P w = .ok n w) (hB : Blk w g t' cs) (hn : cs.length = n) (r : Res P fr w rs vs) : Res P fr w (.cell p t :: rs) (.agg cs.toArray :: vs)
  | flat {p g : Nat} {t t' : TypeId} {v : Value} {rs : List ResultVar} {vs : List Value} (hp : fr.get p = some (.pointer (some ⟨g, 0, none⟩))) (ha' : ∀ w, (isAgg t).run P w = .ok false w) (hB : Blk w g t' [v]) (r : Res P fr w rs vs) : Res P fr w (.cell p t :: rs) (v :: vs)
def resOf (a : Act) (x : ResultVar) : Sem Value := match x with
  | .tmp t => pure (a.tmps.getD t undef)
  | .cell b t => do loadVar t (← asAddr (a.tmps.getD b undef))
theorem resOf_cell {P : Program} {a : Act} {w : World} {p g : Nat} {t : TypeId} {v : Value} (hp : a.tmps.getD p undef = .pointer (some ⟨g, 0, none⟩)) (hl : (loadVar t ⟨g, 0, none⟩).run P w = .ok v w) : (resOf a (.cell p t)).run P w = .ok v w := by
  simp only [resOf, hp, asAddr, Sem.run_bind, Sem.run_pure, Result.andThen_ok, hl]
theorem Res.run {P : Program} {N : Nat} {a : Act} {fr : Fr} {w : World} (ha : Rep N a fr) {rs : List ResultVar} {vs : List Value} (h : Res P fr w rs vs) : (rs.mapM (resOf a)).run P w = .ok vs w := by
  have cons : ∀ {x : ResultVar} {v : Value} {rs : List ResultVar} {vs : List Value}, (resOf a x).run P w = .ok v w → (rs.mapM (resOf a)).run P w = .ok vs w → ((x :: rs).mapM (resOf a)).run P w = .ok (v :: vs) w := by
    intro x v rs vs h1 h2
    rw [List.mapM_cons]
    simp only [Sem.run_bind, Sem.run_pure, Result.andThen_ok, h1, h2]
  induction h with
  | nil => simp
  | @tmp q v rs vs h r ih =>
    have hv : a.tmps.getD q undef = v := ha.ev (x := .tmp q) h
    exact cons (by simp only [resOf, hv, Sem.run_pure]) ih
  | @cell p n g t t' cs rs vs hp ha' hs hB hn r ih =>
    have hp' : a.tmps.getD p undef = .pointer (some ⟨g, 0, none⟩) := ha.ev (x := .tmp p) hp
    subst hn
    have hl : (loadCells ⟨g, 0, none⟩ cs.length).run P w = .ok cs.toArray w := run_loadCells_list (P := P) w ⟨g, 0, none⟩ cs (fun j u hu => by rw [add_plain, hB.cell, Nat.zero_add]; exact hu)
    exact cons (resOf_cell hp' (by simp [loadVar, ha', hs, hl])) ih
  | @flat p g t t' v rs vs hp ha' hB r ih =>
    have hp' : a.tmps.getD p undef = .pointer (some ⟨g, 0, none⟩) := ha.ev (x := .tmp p) hp
    have hc : w.cell? ⟨g, 0, none⟩ = some v := by rw [hB.cell]; rfl
    exact cons (resOf_cell hp' (by simp [loadVar, ha', hc])) ih
theorem ret_any {P : Program} {fn : Func} {N : Nat} {ks : List K} {fr : Fr} {w : World} {rs : List ResultVar} {vs : List Value} {R : Value → World → Prop} (h : fn.results = rs.toArray) (hr : Res P fr w rs vs) (hn : vs.length ≠ 1) (hR : R (.tuple vs.toArray) w) : RK P fn (fun e w' => ∃ v, e = .returned v ∧ R v w') N (.code .ret :: ks) fr w :=
  rk_ret (F := fun e w' => ∃ v, e = .returned v ∧ R v w') (fun a ha => ⟨.tuple vs.toArray, by
    have hrun := hr.run ha
    have h2 : (rs.toArray.mapM (resOf a)).run P w = .ok vs.toArray w := by
      rw [List.mapM_toArray, Sem.run_map, hrun]; rfl
    have e : results fn a.tmps = (do
        let vs ← rs.toArray.mapM (resOf a)
        pure (if h : vs.size = 1 then vs[0] else .tuple vs)) := by rw [← h]; rfl
    rw [e]
    simp only [Sem.run_bind, h2, Result.andThen_ok, Sem.run_pure]
    simp [hn], ⟨_, rfl, hR⟩⟩)
end Go.Proofs.Ytpjedpmbninfcaa
