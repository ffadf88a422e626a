/-
  Parts of a row of the call's own put together in place, and cells set to zero; results in cells and slots. No function of the program is named here.
-/
import Derived.Test.YtchcpnfafgiifaaMg4
import Derived.Laws.OwnMore
namespace Go.Proofs.Ytchcpnfafgiifaa
open Go.RowKit
section
variable {P : Program} {w : World} {lo hi sz n c bytes : Nat} {t ty e : TypeId} {z : Value} {A : Option Addr} {xs : List Value}
theorem zeroCells_mem {zs : Array Value} (h1 : zs.all (fun v => v.oneCell') = true) (h0 : 0 < zs.size) (m : Nat) : ∀ v ∈ (Builtin.zeroCells zs m).toList, v.oneCell' = true := by
  intro v hv
  simp only [Builtin.zeroCells, Array.toList_map, List.mem_map] at hv
  obtain ⟨i, _, rfl⟩ := hv
  have hlt : i % zs.size < zs.size := Nat.mod_lt _ h0
  rw [getElem!_pos zs _ hlt]
  exact Array.all_eq_true.1 h1 _ hlt
/-- 'clear' on what lies behind the row's elements. -/
theorem run_clearR (T : RowT P t e z sz bytes) (hz : ∀ w, (zeroValue e).run P w = .ok z w) (h1 : z.cells.all (fun v => v.oneCell') = true) (hown : RowH w lo hi e sz A n c xs) {k m c' : Nat} (hk : n ≤ k) (hm : k + m ≤ c) :
    ∃ w', (Builtin.clear_ #[t] ty #[.slice (cutA A c sz k) m c']).run P w = .ok (.tuple #[]) w' ∧ RowH w' lo hi e sz A n c xs ∧ Grew w w' e (blk A) := by
  have hT := hown.ty
  rcases Nat.eq_zero_or_pos m with h0 | h0
  · subst h0
    refine ⟨w, ?_, hown, ⟨World.grownBy.refl w _, hT⟩⟩
    cases cutA A c sz k <;> simp [Builtin.clear_, run_underlying T.ht]
  · have ho := hown.o
    rcases ho.2 with ⟨hv, hn0⟩ | ⟨g, cap, cur, hv, hbg, hg, hnc, hcm, hcs, htake⟩
    · injection hv with _ _ e3
      omega
    · injection hv with e1 _ e3
      subst e1; subst e3
      have hB : Blk w g e cur.toList := by unfold Blk; rw [Array.toArray_toList]; exact hg
      have hzl : (Builtin.zeroCells z.cells m).toList.length = m * sz := by simp [Builtin.zeroCells, T.hz]
      have hcl : cur.toList.length = c * sz := by rw [Array.length_toList, hcs]
      have hroom : (k + m) * sz ≤ c * sz := Nat.mul_le_mul_right _ hm
      rw [Nat.add_mul] at hroom
      obtain ⟨w', hr, hB', hgr, _⟩ := run_storeCells_blk (P := P) (o := k * sz) (Builtin.zeroCells z.cells m).toList 0 cur.toList w hB (zeroCells_mem h1 (by rw [T.hz]; exact T.h0) m) (by rw [hzl, hcl]; omega)
      have hcut : cutA (some ⟨g, 0, none⟩) c sz k = some ⟨g, k * sz, none⟩ := by
        unfold cutA; rw [if_neg (by omega)]; simp [add_plain]
      obtain ⟨m', rfl⟩ : ∃ m', m = m' + 1 := ⟨m - 1, by omega⟩
      have hnk : n * sz ≤ k * sz := Nat.mul_le_mul_right _ hk
      refine ⟨w', ?_, ⟨⟨ho.1, .inr ⟨g, c, _, rfl, hbg, hB', hnc, hcm, ?_, ?_⟩⟩, hown.hi⟩, ⟨hgr, hT⟩⟩
      · rw [hcut]
        simp [Builtin.clear_, run_underlying T.ht, hz, hr]
      · rw [List.size_toArray, spl_length (by rw [hzl, hcl]; omega), hcl]
      · rw [← htake, Nat.add_zero]
        simp only [spl]
        rw [List.append_assoc, List.take_append_of_le_length (by rw [List.length_take, hcl]; omega), List.take_take, Nat.min_eq_left hnk]
/-- append where there is room. -/
theorem run_appFit (T : RowT P t e z sz bytes) (hown : RowH w lo hi e sz A n c xs) {X : Option Addr} {m q : Nat} {ms : List Value} (hr : Reads w sz X m ms) (h1 : ∀ u ∈ ms, u.oneCell' = true) (hroom : n + m ≤ c) :
    ∃ w', (Builtin.append_ #[t, t] ty #[.slice A n c, .slice X m q]).run P w = .ok (.slice A (n + m) c) w' ∧ RowH w' lo hi e sz A (n + m) c (xs ++ ms) ∧ Grew w w' e (blk A) := by
  have hT := hown.ty
  obtain ⟨i, hi', hz, hs, hb⟩ := info_parts T.hi
  have ho := hown.o
  by_cases hm : ms = []
  · subst hm
    have hm0 : m = 0 := by
      have := hr.1
      rw [List.length_nil] at this
      rcases Nat.mul_eq_zero.1 this.symm with h2 | h2
      · exact h2
      · have := T.h0; omega
    subst hm0
    refine ⟨w, ?_, by simpa using hown, ⟨World.grownBy.refl w _, hT⟩⟩
    have hst : ∀ a : Addr, (storeCells a [] 0).run P w = .ok () w := fun a => by simp [storeCells]
    have hf : (Builtin.firstCells i.size 0 (.slice X 0 q)).run P w = .ok #[] w := by cases X <;> simp [Builtin.firstCells, loadCells, loadCellsFrom]
    have hnc : n ≤ c := hown.cap
    cases A <;> simp [Builtin.append_, run_underlying T.ht, sizeOf, typeInfo, hi', Builtin.lenOf, hf, storeCells, hnc]
  · obtain ⟨ad, rfl, hcell⟩ := hr.add hm
    have hm0 : 0 < m := by
      rcases Nat.eq_zero_or_pos m with h2 | h2
      · subst h2; exact absurd (List.eq_nil_of_length_eq_zero (by rw [hr.1]; simp)) hm
      · exact h2
    rcases ho.2 with ⟨hv, hn0⟩ | ⟨g, cap, cur, hv, hbg, hg, hnc, hcm, hcs, htake⟩
    · injection hv with _ _ e3
      omega
    · injection hv with e1 _ e3
      subst e1; subst e3
      obtain ⟨w', hrun, r1, r2⟩ := run_append_fits (P := P) (w := w) lo t ty e i sz T.ht hi' hs g n c xs ho ad m q ms hr.1 hcell h1 hroom
      exact ⟨w', hrun, ⟨r1, hown.hi⟩, ⟨r2, hT⟩⟩
end
section
variable {α : Type} {X : GoT α} {e : TypeId} {w : World} {lo hi c : Nat} {A : Option Addr} {L : List α}
theorem part_take {xs : List Value} {m i k : Nat} (hi : i < k) : part (xs.take (k * m)) m i = part xs m i := by
  unfold part
  have h1 : (i + 1) * m ≤ k * m := Nat.mul_le_mul_right _ hi
  rw [Nat.add_mul, Nat.one_mul] at h1
  rw [List.drop_take, List.take_take, Nat.min_eq_left (by omega)]
theorem part_drop {xs : List Value} {m i k : Nat} : part (xs.drop (k * m)) m i = part xs m (k + i) := by
  unfold part
  rw [List.drop_drop, Nat.add_mul]
theorem OwnS.take (h : OwnS X e w lo hi A c L) (k : Nat) (hk : k ≤ L.length) : OwnS X e w lo hi A c (L.take k) := by
  obtain ⟨xs, h1, h2⟩ := h
  have hl : (L.take k).length = k := by rw [List.length_take]; omega
  have hxl : xs.length = L.length * X.sz := h1.rd.1
  have hkx : k * X.sz ≤ L.length * X.sz := Nat.mul_le_mul_right _ hk
  refine ⟨xs.take (k * X.sz), ⟨?_, h1.hi⟩, fun i hi => ?_⟩
  · rw [hl]
    refine ⟨by rw [List.length_take, hxl, Nat.min_eq_left hkx], ?_⟩
    rcases h1.o.2 with ⟨hv, hn0⟩ | ⟨g, cap, cur, hv, h3, h4, h5, h6, h7, h8⟩
    · have h0 : k = 0 := by omega
      subst h0
      injection hv with e1 _ e3
      subst e1; subst e3
      exact .inl ⟨rfl, rfl⟩
    · injection hv with e1 _ e3
      subst e1; subst e3
      refine .inr ⟨g, c, cur, rfl, h3, h4, by omega, h6, h7, ?_⟩
      rw [← h8, List.take_take, Nat.min_eq_left hkx]
  · rw [hl] at hi
    rw [part_take hi, List.getElem_take]
    exact h2 i (by omega)
theorem OwnS.drop (h : OwnS X e w lo hi A c L) (k : Nat) (hk : k ≤ L.length) : RSlT X e w (cutA A c X.sz k) (L.drop k) := by
  have hc := h.cap
  obtain ⟨xs, h1, h2⟩ := h
  have hT := h1.ty
  refine ⟨xs.drop (k * X.sz), h1.rd.cutn hk hc (by rw [List.length_drop]), fun b hb => hT b ?_, fun i hi => ?_⟩
  · unfold cutA at hb
    split at hb
    · exact hb
    · rw [← hb]
      cases A with
      | none => rfl
      | some a => simp [blk, block_of_add]
  · rw [part_drop, List.getElem_drop]
    rw [List.length_drop] at hi
    exact h2 _ (by omega)
end
section
variable {α : Type} {X : GoT α} {P : Program} {fn : Func} {F : Ending → World → Prop} {N : Nat} {ks : List K} {ops : Array Oper} {tg : Tags} {l : List Oper} {fr : Fr} {w : World} {ty t e : TypeId} {z : Value} {pos : String} {aft : Array Edge} {gd : Option (Nat × Bool)} {d n bytes c j q lo hi k m c' : Nat} {x y : Operand} {A B : Option Addr} {L M : List α}
theorem wl_appFit (T : RowT P t e z X.sz bytes) (hx : fr.ev x = some (.slice A n c)) (hown : OwnS X e w lo hi A c L) (hn : n = L.length) (hy : fr.ev y = some (.slice B j q)) (hr : RSlT X e w B M) (hj : j = M.length) (hne : e ∉ X.tys) (h1 : ∀ w cs a, X.T w cs a → ∀ u ∈ cs, u.oneCell' = true) (hroom : L.length + M.length ≤ c)
    (h : ∀ w', OwnS X e w' lo hi A c (L ++ M) → Grew w w' e (blk A) → WL P fn F N ks ops tg.tail l ((d, .slice A (L ++ M).length c) :: fr) w')
    (ht : tg.loud = true := by rfl) (hg : onG ops fr gd = true := by rfl) (hd : Nat.blt d N = true := by rfl) (hq : tg.calm = false ∨ blk A = none ∨ blk A = tg.row := by exact .inl rfl) :
    WL P fn F N ks ops tg (⟨some d, .call { callee := .builtin .append, args := #[x, y], argTypes := #[t, t] }, ty, pos, aft, gd⟩ :: l) fr w := by
  subst hn; subst hj
  obtain ⟨xs, g1, g2⟩ := hown
  obtain ⟨ms, r1, r2, r3⟩ := hr
  have hxl : xs.length = L.length * X.sz := g1.rd.1
  have hml : ms.length = M.length * X.sz := r1.1
  obtain ⟨w', hrun, k1, k2⟩ := run_appFit (ty := ty) (q := q) T g1 r1 (fun u hu => by
    obtain ⟨i, hi, rfl⟩ := List.getElem_of_mem hu
    have h0 := T.h0
    have hq : i / X.sz < M.length := (Nat.div_lt_iff_lt_mul h0).2 (by omega)
    refine h1 _ _ _ (r3 _ hq) _ (List.mem_of_getElem? (i := i % X.sz) ?_)
    rw [part_get (Nat.mod_lt _ h0), Nat.div_add_mod' i X.sz]
    exact List.getElem?_eq_getElem hi) hroom
  have e2 : (L ++ M).length = L.length + M.length := List.length_append
  rw [← e2] at k1 hrun
  refine wl_v (o_builtin (xs := [x, y]) (vs := [.slice A L.length c, .slice B M.length q]) (by simp [Fr.evs, hx, hy]) (by simp [builtin, hrun]) (by simp)) (h w' ⟨_, k1, fun i hi => ?_⟩ k2) ht hg hd
    (hq.imp id fun e => e.elim (fun e => grown_wide (e ▸ k2.g) _) (fun e => e ▸ k2.g))
  rcases Nat.lt_or_ge i L.length with hl | hl
  · rw [part_append_lt hxl hl, List.getElem_append_left hl]
    exact X.ty (g2 i hl) k2 hne
  · rw [List.getElem_append_right hl]
    have hi2 : i - L.length < M.length := by rw [e2] at hi; omega
    have := X.ty (r3 _ hi2) k2 hne
    have e3 : part (xs ++ ms) X.sz i = part ms X.sz (i - L.length) := by
      unfold part
      rw [show i * X.sz = xs.length + (i - L.length) * X.sz by rw [hxl, ← Nat.add_mul]; congr 1; omega, ← List.drop_drop, List.drop_left]
    rw [e3]; exact this
theorem wl_clearS (T : RowT P t e z X.sz bytes) (hz : ∀ w, (zeroValue e).run P w = .ok z w) (h1 : z.cells.all (fun v => v.oneCell') = true) (hx : fr.ev x = some (.slice (cutA A c X.sz k) m c')) (hown : OwnS X e w lo hi A c L) (hk : L.length ≤ k) (hm : k + m ≤ c) (hne : e ∉ X.tys)
    (h : ∀ w', OwnS X e w' lo hi A c L → Grew w w' e (blk A) → WL P fn F N ks ops tg.tail l fr w')
    (ht : tg.loud = true := by rfl) (hg : onG ops fr gd = true := by rfl) (hq : tg.calm = false ∨ blk A = none ∨ blk A = tg.row := by exact .inl rfl) :
    WL P fn F N ks ops tg (⟨none, .call { callee := .builtin .clear, args := #[x], argTypes := #[t] }, ty, pos, aft, gd⟩ :: l) fr w := by
  obtain ⟨xs, g1, g2⟩ := hown
  obtain ⟨w', hrun, k1, k2⟩ := run_clearR (ty := ty) (c' := c') T hz h1 g1 hk hm
  exact wl_v0 (o_builtin (v := .tuple #[]) (xs := [x]) (vs := [.slice (cutA A c X.sz k) m c']) (by simp [Fr.evs, hx]) (by simp [builtin, hrun]) (by simp)) (h w' ⟨_, k1, fun i hi => X.ty (g2 i hi) k2 hne⟩ k2) ht hg
    (hq.imp id fun e => e.elim (fun e => grown_wide (e ▸ k2.g) _) (fun e => e ▸ k2.g))
theorem o_slice3S {N : Nat} {len cap sz : Nat} {kl kh km : IntKind} {L H M : Int} {y z u : Operand} (lo hi mx : Nat) (hu : P.underlying t = some (.slice e)) (hs : ∀ w, (sizeOf e).run P w = .ok sz w) (hx : fr.ev x = some (.slice A len cap)) (hy : fr.ev y = some (.int kl L)) (hz : fr.ev z = some (.int kh H)) (hq : fr.ev u = some (.int km M))
    (hl : L = (lo : Int)) (hh : H = (hi : Int)) (hm : M = (mx : Int)) (h1 : lo ≤ hi) (h2 : hi ≤ mx) (h3 : mx ≤ cap) : OpV P N fr w (.slice t x (some y) (some z) (some u)) ty (.slice (cutA A mx sz lo) (hi - lo) (mx - lo)) w := fun a ha op hop _ => by
  subst hl; subst hh; subst hm
  simp [execOp, hop, ha.ev hx, ha.ev hy, ha.ev hz, ha.ev hq, Instr.sliceAt, Instr.slice, Instr.sliceBounds, Instr.sliceBound, run_underlying hu, asIntOf, hs, h1, h2, h3, cutA]
end
/-- What the results are: in slots, in cells. -/
inductive Res (P : Program) (fr : Fr) (w : World) : List ResultVar → List Value → Prop where
  | nil : Res P fr w [] []
  | tmp {q : Nat} {v : Value} {rs : List ResultVar} {vs : List Value} (h : fr.get q = some v) (r : Res P fr w rs vs) : Res P fr w (.tmp q :: rs) (v :: vs)
  | cell {p n g : Nat} {t t' : TypeId} {cs : List Value} {rs : List ResultVar} {vs : List Value} (hp : fr.get p = some (.pointer (some ⟨g, 0, none⟩))) (ha' : ∀ w, (isAgg t).run P w = .ok true w) (hs : ∀ w, (sizeOf t).run P w = .ok n w) (hB : Blk w g t' cs) (hn : cs.length = n) (r : Res P fr w rs vs) : Res P fr w (.cell p t :: rs) (.agg cs.toArray :: vs)
  | flat {p g : Nat} {t t' : TypeId} {v : Value} {rs : List ResultVar} {vs : List Value} (hp : fr.get p = some (.pointer (some ⟨g, 0, none⟩))) (ha' : ∀ w, (isAgg t).run P w = .ok false w) (hB : Blk w g t' [v]) (r : Res P fr w rs vs) : Res P fr w (.cell p t :: rs) (v :: vs)
def resOf (a : Act) (x : ResultVar) : Sem Value := match x with
  | .tmp t => pure (a.tmps.getD t undef)
  | .cell b t => do loadVar t (← asAddr (a.tmps.getD b undef))
theorem resOf_cell {P : Program} {a : Act} {w : World} {p g : Nat} {t : TypeId} {v : Value} (hp : a.tmps.getD p undef = .pointer (some ⟨g, 0, none⟩)) (hl : (loadVar t ⟨g, 0, none⟩).run P w = .ok v w) : (resOf a (.cell p t)).run P w = .ok v w := by
  simp only [resOf, hp, asAddr, Sem.run_bind, Sem.run_pure, Result.andThen_ok, hl]
theorem Res.run {P : Program} {N : Nat} {a : Act} {fr : Fr} {w : World} (ha : Rep N a fr) {rs : List ResultVar} {vs : List Value} (h : Res P fr w rs vs) : (rs.mapM (resOf a)).run P w = .ok vs w := by
  have cons : ∀ {x : ResultVar} {v : Value} {rs : List ResultVar} {vs : List Value}, (resOf a x).run P w = .ok v w → (rs.mapM (resOf a)).run P w = .ok vs w → ((x :: rs).mapM (resOf a)).run P w = .ok (v :: vs) w := by
    intro x v rs vs h1 h2
    rw [List.mapM_cons]
    simp only [Sem.run_bind, Sem.run_pure, Result.andThen_ok, h1, h2]
  induction h with
  | nil => simp
  | @tmp q v rs vs h r ih =>
    have hv : a.tmps.getD q undef = v := ha.ev (x := .tmp q) h
    exact cons (by simp only [resOf, hv, Sem.run_pure]) ih
  | @cell p n g t t' cs rs vs hp ha' hs hB hn r ih =>
    have hp' : a.tmps.getD p undef = .pointer (some ⟨g, 0, none⟩) := ha.ev (x := .tmp p) hp
    subst hn
    have hl : (loadCells ⟨g, 0, none⟩ cs.length).run P w = .ok cs.toArray w := run_loadCells_list (P := P) w ⟨g, 0, none⟩ cs (fun j u hu => by rw [add_plain, hB.cell, Nat.zero_add]; exact hu)
    exact cons (resOf_cell hp' (by simp [loadVar, ha', hs, hl])) ih
  | @flat p g t t' v rs vs hp ha' hB r ih =>
    have hp' : a.tmps.getD p undef = .pointer (some ⟨g, 0, none⟩) := ha.ev (x := .tmp p) hp
    have hc : w.cell? ⟨g, 0, none⟩ = some v := by rw [hB.cell]; rfl
    exact cons (resOf_cell hp' (by simp [loadVar, ha', hc])) ih
theorem ret_any {P : Program} {fn : Func} {N : Nat} {ks : List K} {fr : Fr} {w : World} {rs : List ResultVar} {vs : List Value} {R : Value → World → Prop} (h : fn.results = rs.toArray) (hr : Res P fr w rs vs) (hn : vs.length ≠ 1) (hR : R (.tuple vs.toArray) w) : RK P fn (fun e w' => ∃ v, e = .returned v ∧ R v w') N (.code .ret :: ks) fr w :=
  rk_ret (F := fun e w' => ∃ v, e = .returned v ∧ R v w') (fun a ha => ⟨.tuple vs.toArray, by
    have hrun := hr.run ha
    have h2 : (rs.toArray.mapM (resOf a)).run P w = .ok vs.toArray w := by
      rw [List.mapM_toArray, Sem.run_map, hrun]; rfl
    have e : results fn a.tmps = (do
        let vs ← rs.toArray.mapM (resOf a)
        pure (if h : vs.size = 1 then vs[0] else .tuple vs)) := by rw [← h]; rfl
    rw [e]
    simp only [Sem.run_bind, h2, Result.andThen_ok, Sem.run_pure]
    simp [hn], ⟨_, rfl, hR⟩⟩)
end Go.Proofs.Ytchcpnfafgiifaa
/-
  Bytes made. No function of the program is named here.
-/
namespace Go.Proofs.Ytchcpnfafgiifaa
open Go.RowKit
theorem own_max {w : World} {lo hi c : Nat} {A : Option Addr} {l : List UInt8} (h : OwnH w lo hi A c l) : c ≤ maxLen := by
  have h1 : w.ownsRow lo 5 1 (.slice A l.length c) l.length (B8 l) := h.o
  rcases h1.2 with ⟨hv, _⟩ | ⟨g, cap, cur, hv, _, _, _, hm, _⟩
  · injection hv with _ _ e; subst e; simp only [maxLen]; omega
  · injection hv with _ _ e
    subst e; exact hm
section
variable {fn : Func} {F : Ending → World → Prop} {N : Nat} {ks : List K} {ops : Array Oper} {tg : Tags} {l : List Oper} {fr : Fr} {w : World} {ty : TypeId} {pos : String} {aft : Array Edge} {gd : Option (Nat × Bool)} {d : Nat} {x y : Operand}
--@ rule makeSlice l wl_mkBz
theorem wl_mkBz {k1 k2 : IntKind} {C E : Int} {Z : List UInt8} (n : Nat) (hx : fr.ev x = some (.int k1 E)) (hy : fr.ev y = some (.int k2 C)) (hE : E = (n : Int)) (hC : C = (n : Int)) (hn : n ≤ 4000000000) (hZ : List.replicate n 0 = Z)
    (hk : ∀ A w', OwnH w' w.heap.size w'.heap.size A n Z → Below w.heap.size w w' → WL Try.prog fn F N ks ops tg.tail l ((d, .slice A n n) :: fr) w')
    (ht : tg.loud = true := by rfl) (hg : onG ops fr gd = true := by rfl) (hd : Nat.blt d N = true := by rfl) : WL Try.prog fn F N ks ops tg (⟨some d, .makeSlice 27 x y, ty, pos, aft, gd⟩ :: l) fr w := by
  subst hC; subst hE; subst hZ
  obtain ⟨i, hi, hz, hs, hb⟩ := info_parts Try.u8.hi
  obtain ⟨w', hrun, r1, r2⟩ := run_make_full (P := Try.prog) w w.heap.size 27 5 i _ 1 Try.u8.ht hi hz hs k1 k2 n (by rw [hb]; omega) (by simp only [maxLen]; omega) (Nat.le_refl _)
  have hbl : Below w.heap.size w w' := (Below.refl _ _).grown r2 (Nat.le_refl _) (by simp)
  have e : (madeCells (Value.int .u8 0).cells (n * 1)).toList = B8 (List.replicate n 0) := by
    rw [Nat.mul_one]; exact (toList_madeCells_one _ _).trans (by simp [B8])
  rw [e] at r1
  have ho : Own w' w.heap.size (some ⟨w.heap.size, 0, none⟩) n (List.replicate n 0) := by
    unfold Own; rw [List.length_replicate]; exact r1
  exact wl_v (fun a ha o ho _ => by simp [execOp, ho, ha.ev hx, ha.ev hy, hrun]) (hk _ w' ho.h_ hbl) ht hg hd (.inr (grown_of_below hbl _))
--@ rule makeSlice l wl_mkB
theorem wl_mkB {k1 k2 : IntKind} {C : Int} (n : Nat) (hx : fr.ev x = some (.int k1 0)) (hy : fr.ev y = some (.int k2 C)) (hC : C = (n : Int)) (hn : n ≤ 281474976710656)
    (hk : ∀ A w', OwnH w' w.heap.size w'.heap.size A n [] → Below w.heap.size w w' → WL Try.prog fn F N ks ops tg.tail l ((d, .slice A 0 n) :: fr) w')
    (ht : tg.loud = true := by rfl) (hg : onG ops fr gd = true := by rfl) (hd : Nat.blt d N = true := by rfl) : WL Try.prog fn F N ks ops tg (⟨some d, .makeSlice 27 x y, ty, pos, aft, gd⟩ :: l) fr w :=
  wl_make0 Try.u8 hx hy hC hn (fun w' h1 h2 _ => hk _ w' h1.h_ h2) ht hg hd
end
end Go.Proofs.Ytchcpnfafgiifaa
/-
  Walks of package leaf: Same of two leaves, Read of the chapter's examples.
-/
namespace Go.Proofs.Ytchcpnfafgiifaa
open Go.RowKit
theorem C_equalI0 {A B : Option Addr} {n m c d : Nat} (w : World) (hn : n = 0) (hm : m = 0) :
    CallsR Try.prog 30 [.slice A n c, .slice B m d] w fun v w' => v = .bool true ∧ w' = w := by
  subst hn; subst hm
  refine ⟨⟨_, Try.func30, rfl, by kernel_rfl⟩, ?_⟩
  refine (Try.slices_Equal_int_empty A B c 0 d w (by omega)).mono ?_
  rintro e w' ⟨rfl, rfl⟩
  exact ⟨_, rfl, rfl, rfl⟩
theorem C_leafSame {A K B A2 K2 B2 : Option Addr} {L M : List (By × By)} {X Y : List By} {n q m c e d n2 q2 m2 c2 e2 d2 : Nat} (w : World) (hA : RI w A L) (hB : RKy w B X) (hA2 : RI w A2 M) (hB2 : RKy w B2 Y) (hn : n = L.length) (hm : m = X.length) (hn2 : n2 = M.length) (hm2 : m2 = Y.length) (hq : q = 0) (hq2 : q2 = 0) (hl : L.length ≤ 4000000) (hl2 : M.length ≤ 4000000) (hl3 : X.length ≤ 4000000) (hl4 : Y.length ≤ 4000000) :
    CallsR Try.prog 16 [.agg #[.slice A n c, .slice K q e, .slice B m d], .agg #[.slice A2 n2 c2, .slice K2 q2 e2, .slice B2 m2 d2]] w fun v w' => v = .bool (decide (L = M ∧ X = Y)) ∧ Below w.heap.size w w' := by
  subst hn; subst hm; subst hn2; subst hm2; subst hq; subst hq2
  refine callsR Try.func16 rfl rfl (by kernel_rfl) rfl ?_
  have hw := Below.refl w.heap.size w
  by_cases h1 : L = M
  · refine rk_seq ?_
    refine rk_region ?_
    refine wl_boxg [_, _, _] rfl (by rfl) ?_
    rintro g2 w2 f2 b2 i2 i2_1
    have s2 := b2.size
    replace hw := hw.trans (b2.mono hw.size)
    refine wl_boxg [_, _, _] rfl (by rfl) ?_
    rintro g3 w3 f3 b3 i3 i3_1
    have s3 := b3.size
    replace hw := hw.trans (b3.mono hw.size)
    replace f2 := f2.u b3
    refine wl_p (fun _ => o_assign rfl) ?_
    refine wl_nil ?_
    refine rk_seq ?_
    refine rk_region ?_
    refine wl_p (fun _ => o_faddr (s := 26) (i := 0) (off := 0) Try.underlying26 rfl Try.sizeOf22 rfl rfl rfl) ?_
    refine wl_r (o_loadbg Try.isAgg22 rfl f2 (by rfl)) ?_
    refine wl_p (fun _ => o_faddr (s := 26) (i := 0) (off := 0) Try.underlying26 rfl Try.sizeOf22 rfl rfl rfl) ?_
    refine wl_r (o_loadbg Try.isAgg22 rfl f3 (by rfl)) ?_
    refine wl_call rfl (C_EqualFuncI _ (hA.u hw) (hA2.u hw) rfl rfl (by omega) (by omega)) ?_
    rintro v9 w9 ⟨rfl, b9⟩
    have s9 := b9.size
    replace hw := hw.trans (b9.mono hw.size)
    replace f2 := f2.u b9
    replace f3 := f3.u b9
    refine wl_p (fun _ => o_move rfl) ?_
    refine wl_know 10 true rfl (decide_eq_true (by omega)) ?_
    refine wl_p (fun _ => o_faddr (s := 26) (i := 1) (off := 1) Try.underlying26 rfl Try.sizeOf23 rfl rfl rfl) ?_
    refine wl_r (o_loadbg Try.isAgg23 rfl f2 (by rfl)) ?_
    refine wl_p (fun _ => o_faddr (s := 26) (i := 1) (off := 1) Try.underlying26 rfl Try.sizeOf23 rfl rfl rfl) ?_
    refine wl_r (o_loadbg Try.isAgg23 rfl f3 (by rfl)) ?_
    refine wl_call rfl (C_equalI0 _ rfl rfl) ?_
    rintro v15 w15 ⟨rfl, rfl⟩
    refine wl_p (fun _ => o_pick_t rfl rfl) ?_
    refine wl_p (fun _ => o_move rfl) ?_
    refine wl_p (fun _ => o_faddr (s := 26) (i := 2) (off := 2) Try.underlying26 rfl Try.sizeOf24 rfl rfl rfl) ?_
    refine wl_r (o_loadbg Try.isAgg24 rfl f2 (by rfl)) ?_
    refine wl_p (fun _ => o_faddr (s := 26) (i := 2) (off := 2) Try.underlying26 rfl Try.sizeOf24 rfl rfl rfl) ?_
    refine wl_r (o_loadbg Try.isAgg24 rfl f3 (by rfl)) ?_
    refine wl_call rfl (C_EqualFuncK _ (hB.u hw) (hB2.u hw) rfl rfl (by omega) (by omega)) ?_
    rintro v22 w22 ⟨rfl, b22⟩
    have s22 := b22.size
    replace hw := hw.trans (b22.mono hw.size)
    replace f3 := f3.u b22
    replace f2 := f2.u b22
    refine wl_p (fun _ => o_pick_t rfl rfl) ?_
    refine wl_p (fun _ => o_assign rfl) ?_
    refine wl_nil ?_
    refine ret1 rfl rfl ?_
    exact ⟨by simp [h1], hw⟩
  · refine rk_seq ?_
    refine rk_region ?_
    refine wl_boxg [_, _, _] rfl (by rfl) ?_
    rintro g2 w2 f2 b2 i2 i2_1
    have s2 := b2.size
    replace hw := hw.trans (b2.mono hw.size)
    refine wl_boxg [_, _, _] rfl (by rfl) ?_
    rintro g3 w3 f3 b3 i3 i3_1
    have s3 := b3.size
    replace hw := hw.trans (b3.mono hw.size)
    replace f2 := f2.u b3
    refine wl_p (fun _ => o_assign rfl) ?_
    refine wl_nil ?_
    refine rk_seq ?_
    refine rk_region ?_
    refine wl_p (fun _ => o_faddr (s := 26) (i := 0) (off := 0) Try.underlying26 rfl Try.sizeOf22 rfl rfl rfl) ?_
    refine wl_r (o_loadbg Try.isAgg22 rfl f2 (by rfl)) ?_
    refine wl_p (fun _ => o_faddr (s := 26) (i := 0) (off := 0) Try.underlying26 rfl Try.sizeOf22 rfl rfl rfl) ?_
    refine wl_r (o_loadbg Try.isAgg22 rfl f3 (by rfl)) ?_
    refine wl_call rfl (C_EqualFuncI _ (hA.u hw) (hA2.u hw) rfl rfl (by omega) (by omega)) ?_
    rintro v9 w9 ⟨rfl, b9⟩
    have s9 := b9.size
    replace hw := hw.trans (b9.mono hw.size)
    replace f2 := f2.u b9
    replace f3 := f3.u b9
    refine wl_p (fun _ => o_move rfl) ?_
    refine wl_know 10 false rfl (decide_eq_false (by omega)) ?_
    refine wl_off ?_
    refine wl_off ?_
    refine wl_off ?_
    refine wl_off ?_
    refine wl_off ?_
    refine wl_p (fun _ => o_pick_f rfl rfl) ?_
    refine wl_p (fun _ => o_move rfl) ?_
    refine wl_off ?_
    refine wl_off ?_
    refine wl_off ?_
    refine wl_off ?_
    refine wl_off ?_
    refine wl_p (fun _ => o_pick_f rfl rfl) ?_
    refine wl_p (fun _ => o_assign rfl) ?_
    refine wl_nil ?_
    refine ret1 rfl rfl ?_
    exact ⟨by simp [h1], hw⟩
def RIT (w : World) (A : Option Addr) (L : List (By × By)) : Prop := RSlT gItem 31 w A L
theorem RIT.u {w w' : World} {A : Option Addr} {L : List (By × By)} (h : RIT w A L) (hb : Below w.heap.size w w') : RIT w' A L := RSlT.u h hb
theorem RIT.d {w : World} {A : Option Addr} {L : List (By × By)} (h : RIT w A L) : RIT w.drew A L := RSlT.d h
theorem RIT.y {w w' : World} {A : Option Addr} {L : List (By × By)} {e' : TypeId} {row : Option Nat} (h : RIT w A L) (hg : Grew w w' e' row) (hne : e' ∉ 31 :: gItem.tys) : RIT w' A L := RSlT.y h hg hne
theorem RIT.to_RI {w : World} {A : Option Addr} {L : List (By × By)} (h : RIT w A L) : RI w A L := RSlT.to_RSl h
theorem OwnI.to_RIT {w : World} {lo hi c : Nat} {A : Option Addr} {L : List (By × By)} (h : OwnI w lo hi A c L) : RIT w A L := OwnS.to_RSlT h
theorem gItem_one (w : World) (cs : List Value) (r : By × By) (h : gItem.T w cs r) : ∀ u ∈ cs, u.oneCell' = true := by
  obtain ⟨_, _, rfl, ⟨A, c, rfl, _⟩, B, d, rfl, _⟩ := h
  intro u hu
  simp only [List.cons_append, List.nil_append, List.mem_cons, List.not_mem_nil, or_false] at hu
  rcases hu with rfl | rfl <;> rfl
section
variable {fn : Func} {F : Ending → World → Prop} {N : Nat} {ks : List K} {ops : Array Oper} {tg : Tags} {l : List Oper} {fr : Fr} {w w' : World} {ty : TypeId} {pos : String} {aft : Array Edge} {gd : Option (Nat × Bool)} {d n j q c lo hi : Nat} {x y : Operand} {A B : Option Addr} {L M : List (By × By)}
--@ rule buildSlice l wl_litItm
theorem wl_litItm {ps : Array (Nat × Operand)} {xs : List Operand} {A1 A2 : Option Addr} {n1 c1 n2 c2 : Nat} {p1 p2 : By} (hxs : ps.toList.map Prod.snd = xs) (hx : fr.evs xs = some [.agg #[.slice A1 n1 c1, .slice A2 n2 c2]]) (h1 : RdT w A1 p1) (h2 : RdT w A2 p2) (hn1 : n1 = p1.length) (hn2 : n2 = p2.length) (hc1 : p1.length ≤ c1) (hc2 : p2.length ≤ c2) (hm1 : c1 ≤ maxLen) (hm2 : c2 ≤ maxLen) (hps : ps = ((List.range' 0 1).zip xs).toArray)
    (hk : ∀ A w', OwnI w' w.heap.size w'.heap.size A 1 [(p1, p2)] → Below w.heap.size w w' → WL Try.prog fn F N ks ops tg.tail l ((d, .slice A 1 1) :: fr) w')
    (ht : tg.loud = true := by rfl) (hg : onG ops fr gd = true := by rfl) (hd : Nat.blt d N = true := by rfl) : WL Try.prog fn F N ks ops tg (⟨some d, .buildSlice 22 1 ps, ty, pos, aft, gd⟩ :: l) fr w := by
  subst hn1; subst hn2
  refine wl_litS (X := gItem) (L := [(p1, p2)]) Try.rowItem Try.sizeOf31 Try.zeroValue31 hxs hps hx rfl rfl (fun i h => ?_) rfl hk ht hg hd
  obtain rfl : i = 0 := by simp at h; omega
  exact ⟨_, rfl, rfl, [.slice A1 p1.length c1], [.slice A2 p2.length c2], rfl, ⟨A1, c1, rfl, h1, hc1, hm1⟩, ⟨A2, c2, rfl, h2, hc2, hm2⟩⟩
--@ rule append l wl_appItm
theorem wl_appItm (hx : fr.ev x = some (.slice A n c)) (hown : OwnI w lo hi A c L) (hn : n = L.length) (hy : fr.ev y = some (.slice B j q)) (hr : RIT w B M) (hj : j = M.length) (hlen : L.length + M.length ≤ 1000000) (hB : lo ≤ w.heap.size)
    (h : ∀ A' c' w', OwnI w' lo w'.heap.size A' c' (L ++ M) → Grew w w' 31 (blk A) → Below lo w w' → WL Try.prog fn F N ks ops tg.tail l ((d, .slice A' (L ++ M).length c') :: fr) w')
    (ht : tg.loud = true := by rfl) (hg : onG ops fr gd = true := by rfl) (hd : Nat.blt d N = true := by rfl) (hq : tg.calm = false ∨ blk A = none ∨ blk A = tg.row := by exact .inl rfl) :
    WL Try.prog fn F N ks ops tg (⟨some d, .call { callee := .builtin .append, args := #[x, y], argTypes := #[22, 22] }, ty, pos, aft, gd⟩ :: l) fr w :=
  wl_appS (X := gItem) Try.rowItem hx hown hn hy hr hj (by simp [gItem, GoT.pair, gBytes]) gItem_one (by have := Nat.mul_le_mul_right 48 hlen; omega) (by omega) hB (fun A' c' w' h1 h2 h3 _ => h A' c' w' h1 h2 h3) ht hg hd hq
end
/-- What is read in the examples. -/
def egB : By := [0, 1, 1, 97, 0] ++ List.replicate 20 0
theorem C_leafReadBad {A : Option Addr} {b : By} {n c : Nat} (w : World) (hr : Rd w A b) (hb : b = [1, 1, 0, 0, 0, 0] ∨ b = [0, 9]) (hn : n = b.length) :
    CallsR Try.prog 12 [.slice A n c] w fun v w' => v = .tuple #[.agg #[.slice none 0 0, .slice none 0 0, .slice none 0 0], .int .i64 4] ∧ Below w.heap.size w w' := by
  subst hn
  rcases hb with rfl | rfl
  · have e1 : WordR 1 [1, 1, 0, 0, 0, 0] 0 1 [1, 0, 0, 0, 0] 0 := ⟨by decide⟩
    have e2 : WordR 1 [1, 0, 0, 0, 0] 0 1 [0, 0, 0, 0] 0 := ⟨by decide⟩
    refine callsR Try.func12 rfl rfl (by kernel_rfl) rfl ?_
    have hw := Below.refl w.heap.size w
    refine rk_seq ?_
    refine rk_region ?_
    refine wl_allocg [_, _, _] Try.zeroValue26 (by rfl) ?_
    rintro g2 w2 f2 b2 i2 i2_1
    have s2 := b2.size
    replace hw := hw.trans (b2.mono hw.size)
    refine wl_p (fun _ => o_assign rfl) ?_
    refine wl_nil ?_
    refine rk_seq ?_
    refine rk_region ?_
    refine wl_p (fun _ => o_move rfl) ?_
    refine wl_call rfl (C_rRead _ (hr.u hw) rfl (by simp)) ?_
    rintro v12 w12 ⟨g12, ⟨rfl, ⟨i12, ⟨i12_1, ⟨f12, b12⟩⟩⟩⟩⟩
    have s12 := b12.size
    replace hw := hw.trans (b12.mono hw.size)
    replace f2 := f2.u b12
    refine wl_p (fun _ => o_assign rfl) ?_
    refine wl_nil ?_
    refine rk_seq ?_
    refine rk_region ?_
    refine wl_p (fun _ => o_move rfl) ?_
    refine wl_call rfl (C_rWord _ f12 e1) ?_
    rintro v14 w14 ⟨rfl, ⟨f14, ⟨g14, g14_1⟩⟩⟩
    have s14 := g14.size
    replace hw := hw.trans (below_of_grownBy g14.g hw.size (by omega))
    replace f2 := f2.k g14.g (ap_some (by omega))
    clear f12
    refine wl_p (fun _ => o_move rfl) ?_
    refine wl_call rfl (C_rWord _ f14 e2) ?_
    rintro v16 w16 ⟨rfl, ⟨f16, ⟨g16, g16_1⟩⟩⟩
    have s16 := g16.size
    replace hw := hw.trans (below_of_grownBy g16.g hw.size (by omega))
    replace f2 := f2.k g16.g (ap_some (by omega))
    clear f14
    refine wl_p (fun _ => o_convi64 (src := 56) (dst := 3) Try.underlying56 Try.underlying3 rfl (by omega) (by omega)) ?_
    refine wl_p (fun _ => o_assign rfl) ?_
    refine wl_p (fun _ => o_assign rfl) ?_
    refine wl_nil ?_
    refine rk_seq ?_
    refine rk_region ?_
    refine wl_allocg [_, _, _] Try.zeroValue26 (by rfl) ?_
    rintro g7 w7 f7 b7 i7 i7_1
    have s7 := b7.size
    replace hw := hw.trans (b7.mono hw.size)
    replace f2 := f2.u b7
    replace f16 := f16.u b7
    refine wl_nil ?_
    refine rk_seq ?_
    refine rk_block ?_
    refine rk_seq ?_
    refine rk_region ?_
    refine wl_p (fun _ => o_move rfl) ?_
    refine wl_call rfl (C_rErr _ f16) ?_
    rintro v21 w21 ⟨rfl, rfl⟩
    refine wl_p (fun _ => o_ne rfl rfl) ?_
    refine wl_p (fun _ => o_move rfl) ?_
    refine wl_p (fun _ => o_move rfl) ?_
    refine wl_p (fun _ => o_gt rfl rfl) ?_
    refine wl_p (fun _ => o_pick_f rfl rfl) ?_
    refine wl_p (fun _ => o_assign rfl) ?_
    refine wl_nil ?_
    refine rk_false rfl ?_
    refine rk_seq ?_
    refine rk_region ?_
    refine wl_p (fun _ => o_move rfl) ?_
    refine wl_p (fun _ => o_eq rfl rfl) ?_
    refine wl_p (fun _ => o_assign rfl) ?_
    refine wl_nil ?_
    refine rk_false rfl ?_
    refine rk_seq ?_
    refine rk_region ?_
    refine wl_p (fun _ => o_move rfl) ?_
    refine wl_p (fun _ => o_eq rfl rfl) ?_
    refine wl_p (fun _ => o_move rfl) ?_
    refine wl_p (fun _ => o_move rfl) ?_
    refine wl_p (fun _ => o_ge rfl rfl) ?_
    refine wl_p (fun _ => o_pick_t rfl rfl) ?_
    refine wl_p (fun _ => o_assign rfl) ?_
    refine wl_nil ?_
    refine rk_false rfl ?_
    refine rk_seq ?_
    refine rk_region ?_
    refine wl_p (fun _ => (o_buildg [_, _, _] Try.underlying26 Try.zeroValue26 (by rfl) (by rfl) rfl (by rfl) (by rfl) (fun _ => by kernel_rfl))) ?_
    refine wl_storega Try.sizeOf26 rfl rfl (by rfl) (by decide) f2 (by rfl) ?_
    rintro w_1 f g e
    have s := g.size
    replace hw := hw.trans (below_of_grownBy g.g hw.size (by omega))
    replace f16 := f16.y g (by decide)
    replace f7 := f7.k g.g (ap_some (by omega))
    clear f2
    refine wl_p (fun _ => o_assign rfl) ?_
    refine wl_nil ?_
    refine ret_any rfl (.cell rfl Try.isAgg26 Try.sizeOf26 (by assumption) rfl <| .tmp rfl <| .nil) (by simp) ?_
    exact ⟨rfl, hw⟩
  · have e1 : WordR 1 [0, 9] 0 0 [9] 0 := ⟨by decide⟩
    have e2 : WordR 1 [9] 0 9 [] 0 := ⟨by decide⟩
    refine callsR Try.func12 rfl rfl (by kernel_rfl) rfl ?_
    have hw := Below.refl w.heap.size w
    refine rk_seq ?_
    refine rk_region ?_
    refine wl_allocg [_, _, _] Try.zeroValue26 (by rfl) ?_
    rintro g2 w2 f2 b2 i2 i2_1
    have s2 := b2.size
    replace hw := hw.trans (b2.mono hw.size)
    refine wl_p (fun _ => o_assign rfl) ?_
    refine wl_nil ?_
    refine rk_seq ?_
    refine rk_region ?_
    refine wl_p (fun _ => o_move rfl) ?_
    refine wl_call rfl (C_rRead _ (hr.u hw) rfl (by simp)) ?_
    rintro v12 w12 ⟨g12, ⟨rfl, ⟨i12, ⟨i12_1, ⟨f12, b12⟩⟩⟩⟩⟩
    have s12 := b12.size
    replace hw := hw.trans (b12.mono hw.size)
    replace f2 := f2.u b12
    refine wl_p (fun _ => o_assign rfl) ?_
    refine wl_nil ?_
    refine rk_seq ?_
    refine rk_region ?_
    refine wl_p (fun _ => o_move rfl) ?_
    refine wl_call rfl (C_rWord _ f12 e1) ?_
    rintro v14 w14 ⟨rfl, ⟨f14, ⟨g14, g14_1⟩⟩⟩
    have s14 := g14.size
    replace hw := hw.trans (below_of_grownBy g14.g hw.size (by omega))
    replace f2 := f2.k g14.g (ap_some (by omega))
    clear f12
    refine wl_p (fun _ => o_move rfl) ?_
    refine wl_call rfl (C_rWord _ f14 e2) ?_
    rintro v16 w16 ⟨rfl, ⟨f16, ⟨g16, g16_1⟩⟩⟩
    have s16 := g16.size
    replace hw := hw.trans (below_of_grownBy g16.g hw.size (by omega))
    replace f2 := f2.k g16.g (ap_some (by omega))
    clear f14
    refine wl_p (fun _ => o_convi64 (src := 56) (dst := 3) Try.underlying56 Try.underlying3 rfl (by omega) (by omega)) ?_
    refine wl_p (fun _ => o_assign rfl) ?_
    refine wl_p (fun _ => o_assign rfl) ?_
    refine wl_nil ?_
    refine rk_seq ?_
    refine rk_region ?_
    refine wl_allocg [_, _, _] Try.zeroValue26 (by rfl) ?_
    rintro g7 w7 f7 b7 i7 i7_1
    have s7 := b7.size
    replace hw := hw.trans (b7.mono hw.size)
    replace f2 := f2.u b7
    replace f16 := f16.u b7
    refine wl_nil ?_
    refine rk_seq ?_
    refine rk_block ?_
    refine rk_seq ?_
    refine rk_region ?_
    refine wl_p (fun _ => o_move rfl) ?_
    refine wl_call rfl (C_rErr _ f16) ?_
    rintro v21 w21 ⟨rfl, rfl⟩
    refine wl_p (fun _ => o_ne rfl rfl) ?_
    refine wl_p (fun _ => o_move rfl) ?_
    refine wl_p (fun _ => o_move rfl) ?_
    refine wl_p (fun _ => o_gt rfl rfl) ?_
    refine wl_p (fun _ => o_pick_f rfl rfl) ?_
    refine wl_p (fun _ => o_assign rfl) ?_
    refine wl_nil ?_
    refine rk_true rfl ?_
    refine rk_seq ?_
    refine rk_region ?_
    refine wl_p (fun _ => (o_buildg [_, _, _] Try.underlying26 Try.zeroValue26 (by rfl) (by rfl) rfl (by rfl) (by rfl) (fun _ => by kernel_rfl))) ?_
    refine wl_storega Try.sizeOf26 rfl rfl (by rfl) (by decide) f2 (by rfl) ?_
    rintro w_1 f g e
    have s := g.size
    replace hw := hw.trans (below_of_grownBy g.g hw.size (by omega))
    replace f16 := f16.y g (by decide)
    replace f7 := f7.k g.g (ap_some (by omega))
    clear f2
    refine wl_p (fun _ => o_assign rfl) ?_
    refine wl_nil ?_
    refine ret_any rfl (.cell rfl Try.isAgg26 Try.sizeOf26 (by assumption) rfl <| .tmp rfl <| .nil) (by simp) ?_
    exact ⟨rfl, hw⟩
theorem C_leafReadOne {A : Option Addr} {b : By} {n c : Nat} (w : World) (hr : Rd w A b) (hb : b = egB) (hn : n = b.length) :
    CallsR Try.prog 12 [.slice A n c] w fun v w' => ∃ A1 c1, v = .tuple #[.agg #[.slice A1 [(([97] : By), ([] : By))].length c1, .slice none 0 0, .slice none 0 0], .int .i64 0] ∧ RIT w' A1 [(([97] : By), ([] : By))] ∧ Below w.heap.size w w' := by
  subst hn
  obtain ⟨Z, hZ⟩ : ∃ Z : By, List.replicate 20 0 = Z := ⟨_, rfl⟩
  have hZl : Z.length = 20 := by rw [← hZ]; rfl
  have hZ0 : ∀ j (h : j < Z.length), Z[j] = 0 := fun j h => by subst hZ; exact List.getElem_replicate ..
  have hbl : b.length = 25 := by rw [hb]; rfl
  have e1 : WordR 1 b 0 0 ([1, 1, 97, 0] ++ Z) 0 := ⟨by subst hZ; subst hb; decide⟩
  have e2 : WordR 1 ([1, 1, 97, 0] ++ Z) 0 1 ([1, 97, 0] ++ Z) 0 := ⟨by subst hZ; decide⟩
  have e3 : BlockR ([1, 97, 0] ++ Z) 0 [97] ([0] ++ Z) 0 := ⟨by subst hZ; decide⟩
  have e4 : BlockR ([0] ++ Z) 0 [] Z 0 := ⟨by subst hZ; decide⟩
  have e5 : TakeR (Z.length : Int) Z 0 Z [] 0 := ⟨by subst hZ; decide⟩
  refine callsR Try.func12 rfl rfl (by kernel_rfl) rfl ?_
  have hw := Below.refl w.heap.size w
  refine rk_seq ?_
  refine rk_region ?_
  refine wl_allocg [_, _, _] Try.zeroValue26 (by rfl) ?_
  rintro g2 w2 f2 b2 i2 i2_1
  have s2 := b2.size
  replace hw := hw.trans (b2.mono hw.size)
  refine wl_p (fun _ => o_assign rfl) ?_
  refine wl_nil ?_
  refine rk_seq ?_
  refine rk_region ?_
  refine wl_p (fun _ => o_move rfl) ?_
  refine wl_call rfl (C_rRead _ (hr.u hw) rfl (by omega)) ?_
  rintro v12 w12 ⟨g12, ⟨rfl, ⟨i12, ⟨i12_1, ⟨f12, b12⟩⟩⟩⟩⟩
  have s12 := b12.size
  replace hw := hw.trans (b12.mono hw.size)
  replace f2 := f2.u b12
  refine wl_p (fun _ => o_assign rfl) ?_
  refine wl_nil ?_
  refine rk_seq ?_
  refine rk_region ?_
  refine wl_p (fun _ => o_move rfl) ?_
  refine wl_call rfl (C_rWord _ f12 e1) ?_
  rintro v14 w14 ⟨rfl, ⟨f14, ⟨g14, g14_1⟩⟩⟩
  have s14 := g14.size
  replace hw := hw.trans (below_of_grownBy g14.g hw.size (by omega))
  replace f2 := f2.k g14.g (ap_some (by omega))
  clear f12
  refine wl_p (fun _ => o_move rfl) ?_
  refine wl_call rfl (C_rWord _ f14 e2) ?_
  rintro v16 w16 ⟨rfl, ⟨f16, ⟨g16, g16_1⟩⟩⟩
  have s16 := g16.size
  replace hw := hw.trans (below_of_grownBy g16.g hw.size (by omega))
  replace f2 := f2.k g16.g (ap_some (by omega))
  clear f14
  refine wl_p (fun _ => o_convi64 (src := 56) (dst := 3) Try.underlying56 Try.underlying3 rfl (by omega) (by omega)) ?_
  refine wl_p (fun _ => o_assign rfl) ?_
  refine wl_p (fun _ => o_assign rfl) ?_
  refine wl_nil ?_
  refine rk_seq ?_
  refine rk_region ?_
  refine wl_allocg [_, _, _] Try.zeroValue26 (by rfl) ?_
  rintro g7 w7 f7 b7 i7 i7_1
  have s7 := b7.size
  replace hw := hw.trans (b7.mono hw.size)
  replace f2 := f2.u b7
  replace f16 := f16.u b7
  refine wl_nil ?_
  refine rk_seq ?_
  refine rk_block ?_
  refine rk_seq ?_
  refine rk_region ?_
  refine wl_p (fun _ => o_move rfl) ?_
  refine wl_call rfl (C_rErr _ f16) ?_
  rintro v21 w21 ⟨rfl, rfl⟩
  refine wl_p (fun _ => o_ne rfl rfl) ?_
  refine wl_p (fun _ => o_move rfl) ?_
  refine wl_p (fun _ => o_move rfl) ?_
  refine wl_p (fun _ => o_gt rfl rfl) ?_
  refine wl_p (fun _ => o_pick_f rfl rfl) ?_
  refine wl_p (fun _ => o_assign rfl) ?_
  refine wl_nil ?_
  refine rk_false rfl ?_
  refine rk_seq ?_
  refine rk_region ?_
  refine wl_p (fun _ => o_move rfl) ?_
  refine wl_p (fun _ => o_eq rfl rfl) ?_
  refine wl_p (fun _ => o_assign rfl) ?_
  refine wl_nil ?_
  refine rk_true rfl ?_
  refine rk_seq ?_
  refine rk_region ?_
  refine wl_p (fun _ => o_move rfl) ?_
  refine wl_p (fun _ => o_move rfl) ?_
  refine wl_nil ?_
  refine rk_block ?_
  refine rk_joinf (fun fb fr w3 => ∃ A1 c1, fr = [] ++ fb.drop 1 ∧ OwnI w3 w.heap.size w3.heap.size A1 c1 [(([97] : By), ([] : By))] ∧ Blk w3 g7 26 [.slice A1 [(([97] : By), ([] : By))].length c1, .slice none 0 0, .slice none 0 0] ∧ Blk w3 g2 26 [.slice none 0 0, .slice none 0 0, .slice none 0 0] ∧ Rdr w3 g12 (Z, 0) ∧ w21.heap.size ≤ w3.heap.size ∧ Below w.heap.size w w3) ?_ (fun ks hj => ?_)
  rotate_left
  · refine rk_loopf (fun fb m fr w3 => ∃ (i : Nat) (v : Int) (A1 : Option Addr) (c1 : Nat) (L : List (By × By)) (s : By), fr = [(32, .int .i64 v)] ++ fb.drop 1 ∧ v = i ∧ i ≤ 1 ∧ m = 1 - i ∧ (i = 0 ∧ L = [] ∧ s = [1, 97, 0] ++ Z ∨ i = 1 ∧ L = [([97], [])] ∧ s = Z) ∧ OwnI w3 w.heap.size w3.heap.size A1 c1 L ∧ Blk w3 g7 26 [.slice A1 L.length c1, .slice none 0 0, .slice none 0 0] ∧ Blk w3 g2 26 [.slice none 0 0, .slice none 0 0, .slice none 0 0] ∧ Rdr w3 g12 (s, 0) ∧ w21.heap.size ≤ w3.heap.size ∧ Below w.heap.size w w3) (n := 1) (Fr.le_of (by kernel_rfl) (by kernel_rfl) (by repeat' constructor)) ⟨0, _, none, 0, [], _, rfl, rfl, by omega, rfl, .inl ⟨rfl, rfl, rfl⟩, OwnI.nil_, f7, f2, f16, Nat.le_refl _, hw⟩ ?_
    clear f7 f2 f16 hw
    rintro m fr w3 ⟨i, v, A1, c1, L, s, rfl, rfl, hi, rfl, hc, fo, f7, f2, f16, hsz, hw⟩
    have shw := hw.size
    first | refine rk_frame (by simp only [List.cons_append, List.nil_append, List.drop_succ_cons, List.drop_zero]; rfl) ?_ | refine wl_frame (by simp only [List.cons_append, List.nil_append, List.drop_succ_cons, List.drop_zero]; rfl) ?_
    rcases hc with ⟨rfl, rfl, rfl⟩ | ⟨rfl, rfl, rfl⟩
    · refine rk_seq ?_
      refine rk_region ?_
      refine wl_p (fun _ => o_lt rfl rfl) ?_
      refine wl_nil ?_
      refine rk_seq ?_
      refine rk_true rfl ?_
      refine rk_skip ?_
      refine rk_seq ?_
      refine rk_block ?_
      refine rk_seq ?_
      refine rk_region ?_
      refine wl_p (fun _ => o_move rfl) ?_
      refine wl_call rfl (C_rBlock _ f16 e3) ?_
      rintro v35 w35 ⟨A35, ⟨c35, ⟨rfl, ⟨f35, ⟨f35_1, ⟨g35, g35_1⟩⟩⟩⟩⟩⟩
      have qf35 := f35.cap
      have s35 := g35.size
      replace hw := hw.trans (below_of_grownBy g35.g hw.size (by omega))
      replace f7 := f7.k g35.g (ap_some (by omega))
      replace fo := fo.y g35 (by decide)
      replace f2 := f2.k g35.g (ap_some (by omega))
      clear f16
      refine wl_p (fun _ => o_assign rfl) ?_
      refine wl_nil ?_
      refine rk_drawR (g12) (g12 + 1) (id := 11) (none) [0, 1, 0, 0, 8, 20, 32, 82, 255, 511] [0, 1, 0, 0, 8, 28, 60, 127, 255, 511] 720 80 [(.p, 0), (.s, 1), (.p, 2), (.p, 3), (.c, 4), (.p, 5), (.c, 6), (.l, 7), (.p, 8), (.l, 9)] (by kernel_rfl) (by kernel_rfl) (by kernel_rfl) (by kernel_rfl) (by kernel_rfl) ?_
      replace f35 := f35.d
      replace f35_1 := f35_1.d
      replace hw := hw.drew
      replace f7 := f7.d
      replace fo := fo.d
      replace f2 := f2.d
      refine wl_p (fun _ => o_faddr (s := 26) (i := 0) (off := 0) Try.underlying26 rfl Try.sizeOf22 rfl rfl rfl) ?_
      refine wl_s (fun _ hk => (o_loadbg Try.isAgg22 rfl (f7.c (chg_of_ok hk) (by omega)) (by rfl))) ?_
      refine wl_p (fun _ => o_move rfl) ?_
      refine wl_p (fun _ => o_move rfl) ?_
      refine wl_callQ rfl (C_rBlock _ f35_1 e4) ?_ (hq := .inr fun _ _ h => by obtain ⟨_, _, _, _, _, _, hb⟩ := h; exact ok_of_chg hb)
      rintro v40 w40 ⟨A40, ⟨c40, ⟨rfl, ⟨f40, ⟨f40_1, ⟨g40, g40_1⟩⟩⟩⟩⟩⟩
      simp only [drew_size] at f40
      have qf40 := f40.cap
      have s40 := g40.size
      simp only [drew_size] at s40
      replace hw := hw.trans (below_of_grownBy g40.g hw.size (by omega))
      replace f2 := f2.k g40.g (ap_some (by omega))
      replace fo := fo.y g40 (by decide)
      replace f7 := f7.k g40.g (ap_some (by omega))
      replace f35 := f35.k g40.g (ap_some (by omega))
      clear f35_1
      refine wl_p (fun _ => (o_buildg [_, _] Try.underlying31 Try.zeroValue31 (by rfl) (by rfl) rfl (by rfl) (by rfl) (fun _ => by kernel_rfl))) ?_
      have m1 := own_max f35
      have m2 := own_max f40
      refine wl_litItm (by rfl) rfl f35.to_RdT f40.to_RdT rfl rfl (by omega) (by omega) (by omega) (by omega) (by rfl) ?_
      rintro A42 w42 f42 b42
      have qf42 := f42.cap
      have s42 := b42.size
      replace hw := hw.trans (b42.mono hw.size)
      replace f35 := f35.u b42
      replace f7 := f7.u b42
      replace fo := fo.u b42
      replace f2 := f2.u b42
      replace f40_1 := f40_1.u b42
      replace f40 := f40.u b42
      refine wl_appItm rfl fo rfl rfl f42.to_RIT (by rfl) (by simp) hw.size ?_
      rintro A43 c43 w43 f43 g43 b43
      have qf43 := f43.cap
      have s43 := g43.size
      replace hw := hw.trans (b43.mono (by omega))
      replace f40 := f40.y g43 (by decide)
      replace f40_1 := f40_1.y g43 (by decide)
      replace f2 := f2.y g43 (by decide)
      replace f7 := f7.y g43 (by decide)
      replace f35 := f35.y g43 (by decide)
      clear fo
      clear f42
      refine wl_p (fun _ => o_faddr (s := 26) (i := 0) (off := 0) Try.underlying26 rfl Try.sizeOf22 rfl rfl rfl) ?_
      refine wl_storeg1 Try.sizeOf22 rfl rfl (by rfl) f7 (by simp) ?_
      rintro w_1 f g e
      have s := g.size
      replace hw := hw.trans (below_of_grownBy g.g hw.size (by omega))
      replace f35 := f35.k g.g (ap_some (by omega))
      replace f2 := f2.k g.g (ap_some (by omega))
      replace f40_1 := f40_1.y g (by decide)
      replace f40 := f40.k g.g (ap_some (by omega))
      replace f43 := f43.y g (by decide)
      clear f7
      refine wl_nild ?_
      refine rk_blk ?_
      refine rk_region ?_
      refine wl_p (fun _ => o_add rfl rfl (by omega) (by omega)) ?_
      refine wl_p (fun _ => o_move rfl) ?_
      refine wl_nil ?_
      exact rk_againf (Fr.le_of (by kernel_rfl) (by kernel_rfl) (by repeat' constructor)) ⟨1, (1 : Int), A43, c43, [([97], [])], Z, rfl, rfl, by omega, rfl, .inr ⟨rfl, rfl, rfl⟩, OwnS.base f43 (Nat.le_refl _) (by omega), f, f2, f40_1, by omega, hw⟩ (by omega)
    · refine rk_seq ?_
      refine rk_region ?_
      refine wl_p (fun _ => o_lt rfl rfl) ?_
      refine wl_nil ?_
      refine rk_seq ?_
      refine rk_false rfl ?_
      refine rk_exit rfl ?_
      exact rk_tof hj (Fr.le_of (by kernel_rfl) (by kernel_rfl) (by repeat' constructor)) ⟨A1, c1, rfl, fo, f7, f2, f16, hsz, hw⟩
  clear f7 f2 f16 hw
  rintro fr w3 ⟨A1, c1, rfl, fo, f7, f2, f16, hsz, hw⟩
  have shw := hw.size
  first | refine rk_frame (by simp only [List.cons_append, List.nil_append, List.drop_succ_cons, List.drop_zero]; rfl) ?_ | refine wl_frame (by simp only [List.cons_append, List.nil_append, List.drop_succ_cons, List.drop_zero]; rfl) ?_
  refine rk_blk ?_
  refine rk_seq ?_
  refine rk_seq ?_
  refine rk_region ?_
  refine wl_p (fun _ => o_move rfl) ?_
  refine wl_p (fun _ => o_move rfl) ?_
  refine wl_call rfl (C_rLeft _ f16) ?_
  rintro v79 w79 ⟨rfl, b79⟩
  have s79 := b79.size
  replace hw := hw.trans (b79.mono hw.size)
  replace f16 := f16.u b79
  replace f2 := f2.u b79
  replace f7 := f7.u b79
  replace fo := fo.u b79
  refine wl_call rfl (C_rTake _ f16 e5 (by omega)) ?_
  rintro v80 w80 ⟨A80, ⟨c80, ⟨rfl, ⟨f80, ⟨f80_1, ⟨g80, g80_1⟩⟩⟩⟩⟩⟩
  have qf80 := f80.cap
  have s80 := g80.size
  replace hw := hw.trans (below_of_grownBy g80.g hw.size (by omega))
  replace fo := fo.y g80 (by decide)
  replace f7 := f7.k g80.g (ap_some (by omega))
  replace f2 := f2.k g80.g (ap_some (by omega))
  clear f16
  refine wl_p (fun _ => o_len (t := 27) Try.underlying27 rfl) ?_
  refine wl_p (fun _ => o_move rfl) ?_
  refine wl_nil ?_
  refine rk_block ?_
  have hzl : ((Z.length : Nat) : Int) = 20 := by omega
  refine rk_joinf (fun fb fr w4 => fr = [] ++ fb.drop 1 ∧ Below w80.heap.size w80 w4) ?_ (fun ks hj => ?_)
  rotate_left
  · refine rk_loopf (fun fb m fr w4 => ∃ (i : Nat) (v : Int), fr = [(82, .int .i64 v)] ++ fb.drop 1 ∧ v = i ∧ i ≤ Z.length ∧ m = Z.length - i ∧ Below w80.heap.size w80 w4) (n := Z.length) (Fr.le_of (by kernel_rfl) (by kernel_rfl) (by repeat' constructor)) ⟨0, _, rfl, rfl, by omega, rfl, Below.refl _ _⟩ ?_
    rintro m fr w4 ⟨i, v, rfl, rfl, hi, rfl, hw1⟩
    first | refine rk_frame (by simp only [List.cons_append, List.nil_append, List.drop_succ_cons, List.drop_zero]; rfl) ?_ | refine wl_frame (by simp only [List.cons_append, List.nil_append, List.drop_succ_cons, List.drop_zero]; rfl) ?_
    have shw1 := hw1.size
    replace hw := hw.trans (hw1.mono hw.size)
    replace f2 := f2.u hw1
    replace f7 := f7.u hw1
    replace fo := fo.u hw1
    replace f80_1 := f80_1.u hw1
    replace f80 := f80.u hw1
    refine rk_seq ?_
    refine rk_region ?_
    refine wl_p (fun _ => o_lt rfl rfl) ?_
    refine wl_nil ?_
    refine rk_seq ?_
    refine rk_if rfl (fun h83 => ?_) (fun h83 => ?_)
    · have hiZ : i < Z.length := by omega
      have hz0 := hZ0 i hiZ
      refine rk_skip ?_
      refine rk_seq ?_
      refine rk_block ?_
      refine rk_seq ?_
      refine rk_region ?_
      refine wl_p (fun _ => (o_iaddrA1 (i) Try.underlying27 Try.sizeOf5 rfl rfl rfl (Reads.some_ f80.to_Reads (by decide) (by omega)) (by omega))) ?_
      refine wl_r (o_loadB Try.isAgg5 rfl f80.to_Rd (by omega)) ?_
      refine wl_p (fun _ => o_assign rfl) ?_
      refine wl_nil ?_
      refine rk_seq ?_
      refine rk_region ?_
      refine wl_p (fun _ => o_move rfl) ?_
      refine wl_p (fun _ => o_ne rfl rfl) ?_
      refine wl_nil ?_
      refine rk_if rfl (fun h87 => ?_) (fun h87 => ?_)
      · exact absurd (by rw [hz0]; rfl) h87
      refine rk_skip ?_
      refine rk_blk ?_
      refine rk_region ?_
      refine wl_p (fun _ => o_add rfl rfl (by omega) (by omega)) ?_
      refine wl_p (fun _ => o_move rfl) ?_
      refine wl_nil ?_
      exact rk_againf (Fr.le_of (by kernel_rfl) (by kernel_rfl) (by repeat' constructor)) ⟨i + 1, (i : Int) + 1, rfl, by omega, by omega, rfl, hw1⟩ (by omega)
    · refine rk_exit rfl ?_
      exact rk_tof hj (Fr.le_of (by kernel_rfl) (by kernel_rfl) (by repeat' constructor)) ⟨rfl, hw1⟩
  rintro fr w4 ⟨rfl, hw1⟩
  first | refine rk_frame (by simp only [List.cons_append, List.nil_append, List.drop_succ_cons, List.drop_zero]; rfl) ?_ | refine wl_frame (by simp only [List.cons_append, List.nil_append, List.drop_succ_cons, List.drop_zero]; rfl) ?_
  have shw1 := hw1.size
  replace hw := hw.trans (hw1.mono hw.size)
  replace f2 := f2.u hw1
  replace f7 := f7.u hw1
  replace fo := fo.u hw1
  replace f80_1 := f80_1.u hw1
  replace f80 := f80.u hw1
  refine rk_seq ?_
  refine rk_seq ?_
  refine rk_region ?_
  refine wl_p (fun _ => o_move rfl) ?_
  refine wl_call rfl (C_rErr _ f80_1) ?_
  rintro v91 w91 ⟨rfl, rfl⟩
  refine wl_p (fun _ => o_ne rfl rfl) ?_
  refine wl_p (fun _ => o_move rfl) ?_
  refine wl_r (o_loadag Try.isAgg26 Try.sizeOf26 rfl f7 (by rfl)) ?_
  refine wl_call rfl (C_leafCheck _ fo.to_RI (RZ.nil_) (RKy.nil_) rfl (by rfl) (by rfl) (by simp [LightI]) (by simp) (by simp [LightK]) (by simp) (by simp)) ?_
  rintro v95 w95 ⟨z95, ⟨rfl, ⟨i95, ⟨i95_1, b95⟩⟩⟩⟩
  have s95 := b95.size
  replace hw1 := hw1.trans (b95.mono hw1.size)
  replace hw := hw.trans (b95.mono hw.size)
  replace f80 := f80.u b95
  replace f80_1 := f80_1.u b95
  replace fo := fo.u b95
  replace f7 := f7.u b95
  replace f2 := f2.u b95
  refine wl_p (fun _ => o_ne rfl rfl) ?_
  refine wl_p (fun _ => o_pick_f rfl rfl) ?_
  refine wl_nil ?_
  obtain rfl : z95 = 0 := i95_1.2 (by decide)
  refine rk_false rfl ?_
  refine rk_skip ?_
  refine rk_seq ?_
  refine rk_region ?_
  refine wl_r (o_loadag Try.isAgg26 Try.sizeOf26 rfl f7 (by rfl)) ?_
  refine wl_storega Try.sizeOf26 rfl rfl (by rfl) (oneCell_of (by rfl)) f2 (by rfl) ?_
  rintro w_1 f g e
  have s := g.size
  replace hw := hw.trans (below_of_grownBy g.g hw.size (by omega))
  replace f7 := f7.k g.g (ap_some (by omega))
  replace fo := fo.y g (by decide)
  replace f80_1 := f80_1.y g (by decide)
  replace f80 := f80.k g.g (ap_some (by omega))
  clear f2
  refine wl_p (fun _ => o_assign rfl) ?_
  refine wl_nil ?_
  refine ret_any rfl (.cell rfl Try.isAgg26 Try.sizeOf26 (by assumption) rfl <| .tmp rfl <| .nil) (by simp) ?_
  exact ⟨A1, c1, rfl, fo.to_RIT, hw⟩
end Go.Proofs.Ytchcpnfafgiifaa
/-
  The statement LeafFinds: its arguments, its walk.
-/
namespace Go.Proofs.Ytchcpnfafgiifaa
open Go.RowKit
abbrev Nd := List (By × By) × List Int × List By
def gNode : GoT Nd := (GoT.slice 31 gItem).pair ((GoT.slice 3 (gInt .i64)).pair (GoT.slice 27 gBytes))
theorem opens_Node : Opens Try.prog 26 gNode :=
  have hb : Opens Try.prog 27 gBytes := opens_bytes Try.underlying27 Try.underlying5 (by kernel_rfl) (by kernel_rfl)
  have hI : Opens Try.prog 31 gItem := opens_struct Try.underlying31 (by kernel_rfl) (.more hb rfl (.one hb rfl))
  opens_struct Try.underlying26 (by kernel_rfl)
    (.more (opens_slice Try.underlying22 (by kernel_rfl) (by decide) hI) rfl
      (.more (opens_slice Try.underlying23 (by kernel_rfl) (by decide) (opens_int Try.underlying3 (by kernel_rfl))) rfl
        (.one (opens_slice Try.underlying24 (by kernel_rfl) (by decide) hb) rfl)))
theorem rsl_nums {w : World} {A : Option Addr} {L : List Int} (h : RSl (gInt .i64) w A L) : RZ w A L ∧ ∀ z ∈ L, (Lit.int .i64 z).wf = true := by
  obtain ⟨xs, h1, h2⟩ := h
  have hl : xs.length = L.length := by rw [h1.1]; exact Nat.mul_one _
  have e : xs = L.map (Value.int .i64) := by
    apply List.ext_getElem (by rw [hl, List.length_map])
    intro i h3 h4
    obtain ⟨h5, _⟩ := h2 i (by omega)
    have h6 := part_get (xs := xs) (m := 1) (i := i) (j := 0) (by omega)
    have h7 : part xs (gInt .i64).sz i = part xs 1 i := rfl
    rw [h7] at h5
    rw [h5, Nat.mul_one, Nat.add_zero, List.getElem?_eq_getElem h3] at h6
    rw [List.getElem_map]
    simpa using h6.symm
  subst e
  refine ⟨h1, fun z hz => ?_⟩
  obtain ⟨i, hi, rfl⟩ := List.getElem_of_mem hz
  exact (h2 i hi).2
/-- A node as a value. -/
def NdV (w : World) (p : Nd) (v : Value) : Prop := ∃ A c K e B d, v = .agg #[.slice A p.1.length c, .slice K p.2.1.length e, .slice B p.2.2.length d] ∧ RI w A p.1 ∧ RZ w K p.2.1 ∧ RKy w B p.2.2 ∧ p.2.1.length ≤ e ∧ ∀ z ∈ p.2.1, (Lit.int .i64 z).wf = true
--@ arg api.TreeNode arg_Node
theorem arg_Node {H : Type} {enc : TypeId × Value → H} {W : World} {base : Nat} {v : Value} {d : DataW H} {p : List MemPlace} (hok : Value.okWide Try.prog W .any base 26 v) (h : DataW.Trod enc Try.prog W 0 (fun _ => true) true 26 v d p) :
    ∃ p : Nd, NdV W p v := by
  obtain ⟨cs, a, rfl, c1, c2, rfl, h1, c3, c4, rfl, h2, h3⟩ := open_agg opens_Node (.inl ⟨_, Try.underlying26⟩) hok h
  obtain ⟨A, c, rfl, hA, _⟩ := slice_RSl h1
  obtain ⟨K, e, rfl, hK, he, _⟩ := slice_RSl h2
  obtain ⟨B, d, rfl, hB, _⟩ := slice_RSl h3
  exact ⟨a, A, c, K, e, B, d, rfl, hA, (rsl_nums hK).1, hB, he, (rsl_nums hK).2⟩

/-! What is ordered. -/
theorem count_cut {α : Type} (p : α → Bool) : ∀ (l : List α) (k : Nat), k ≤ l.length → (∀ j (h : j < l.length), j < k → p l[j] = true) → (∀ j (h : j < l.length), k ≤ j → p l[j] = false) → l.countP p = k
  | [], k, hk, _, _ => by simp at hk; simp [hk]
  | x :: l, 0, _, _, h2 => by
    rw [List.countP_eq_zero]
    intro y hy
    obtain ⟨j, hj, rfl⟩ := List.getElem_of_mem hy
    simp [h2 j hj (Nat.zero_le _)]
  | x :: l, k + 1, hk, h1, h2 => by
    have h0 : p x = true := h1 0 (by simp) (by omega)
    rw [List.countP_cons_of_pos h0, count_cut p l k (by simpa using hk) (fun j hj hjk => h1 (j + 1) (by simpa using hj) (by omega)) (fun j hj hjk => h2 (j + 1) (by simpa using hj) (by omega))]
theorem cmpL_chain {l : List By} (h : ∀ i (h : i < l.length), 0 < i → cmpL l[i - 1] l[i] < 0) : ∀ (j i : Nat) (hj : j < l.length) (hij : i < j), cmpL l[i] l[j] < 0
  | 0, i, _, hij => absurd hij (Nat.not_lt_zero _)
  | j + 1, i, hj, hij => by
    have h1 := h (j + 1) hj (by omega)
    simp only [Nat.add_sub_cancel] at h1
    rcases Nat.lt_or_ge i j with h2 | h2
    · exact cmpL_trans _ _ _ (cmpL_chain h j i (by omega) h2) h1
    · obtain rfl : i = j := by omega
      exact h1
theorem find_law {l : List By} {key : By} {k : Nat} {ok : Bool} (h : ∀ i (h : i < l.length), 0 < i → cmpL l[i - 1] l[i] < 0) (hk : k ≤ l.length) (h1 : ∀ j (h : j < l.length), j < k → cmpL l[j] key < 0) (h2 : ∀ h : k < l.length, 0 ≤ cmpL l[k] key ∧ (ok = true ↔ cmpL l[k] key = 0)) (h3 : k = l.length → ok = false) :
    l.countP (fun x => decide (cmpL x key < 0)) = k ∧ l.any (fun x => decide (x = key)) = ok := by
  have hge : ∀ j (h : j < l.length), k < j → 0 < cmpL l[j] key := fun j hj hkj => by
    have h4 := cmpL_chain h j k hj hkj
    have h5 := (h2 (by omega)).1
    rcases Int.lt_or_le 0 (cmpL l[j] key) with h6 | h6
    · exact h6
    · rcases Int.lt_or_eq_of_le h6 with h7 | h7
      · have := cmpL_trans _ _ _ h4 h7; omega
      · rw [(cmpL_zero _ _).1 h7] at h4; omega
  constructor
  · refine count_cut _ l k hk (fun j hj hjk => by simpa using h1 j hj hjk) (fun j hj hjk => ?_)
    rcases Nat.lt_or_eq_of_le hjk with h4 | h4
    · have := hge j hj h4; simp; omega
    · subst h4; have := (h2 hj).1; simp; omega
  · rw [Bool.eq_iff_iff, List.any_eq_true]
    constructor
    · rintro ⟨x, hx, he⟩
      obtain ⟨j, hj, rfl⟩ := List.getElem_of_mem hx
      have he : l[j] = key := by simpa using he
      have h0 := (cmpL_zero _ _).2 he
      rcases Nat.lt_trichotomy j k with h4 | h4 | h4
      · have := h1 j hj h4; omega
      · subst h4; exact (h2 hj).2.2 h0
      · have := hge j hj h4; omega
    · intro hok
      have hkl : k < l.length := by
        rcases Nat.lt_or_ge k l.length with h4 | h4
        · exact h4
        · rw [h3 (by omega)] at hok; cases hok
      exact ⟨l[k], List.getElem_mem hkl, by simpa using (cmpL_zero _ _).1 ((h2 hkl).2.1 hok)⟩
theorem kid_law {l : List By} {key : By} {k : Nat} (h : ∀ i (h : i < l.length), 0 < i → cmpL l[i - 1] l[i] < 0) (hk : k ≤ l.length) (h1 : ∀ j (h : j < l.length), j < k → cmpL l[j] key ≤ 0) (h2 : ∀ h : k < l.length, 0 < cmpL l[k] key) :
    l.countP (fun x => decide (cmpL x key ≤ 0)) = k := by
  refine count_cut _ l k hk (fun j hj hjk => by simpa using h1 j hj hjk) (fun j hj hjk => ?_)
  rcases Nat.lt_or_eq_of_le hjk with h4 | h4
  · have h5 := cmpL_chain h j k hj h4
    have h6 := h2 (by omega)
    suffices 0 < cmpL l[j] key by simp; omega
    rcases Int.lt_or_le 0 (cmpL l[j] key) with h7 | h7
    · exact h7
    · rcases Int.lt_or_eq_of_le h7 with h8 | h8
      · have := cmpL_trans _ _ _ h5 h8; omega
      · rw [(cmpL_zero _ _).1 h8] at h5; omega
  · subst h4; have := h2 hj; simp; omega

set_option maxHeartbeats 1000000 in
theorem C_LeafFinds (w : World) (v : Value) (p : Nd) (hp : NdV w p v) (C : Option Addr) (g : Nat) (key : By) (hC : Rd w C key) (_hg : key.length ≤ g) (_hm : g ≤ maxLen) (D : Option Addr) (r : Nat) (a : By) (hD : Rd w D a) (_hr : a.length ≤ r) (_hm2 : r ≤ maxLen) (E : Option Addr) (s : Nat) (b : By) (hE : Rd w E b) (_hs : b.length ≤ s) (_hm3 : s ≤ maxLen) :
    CallsR Try.prog 3 [v, .slice C key.length g, .slice D a.length r, .slice E b.length s] w fun v w' => v = .bool true ∧ Below w.heap.size w w' := by
  obtain ⟨items, kids, keys⟩ := p
  obtain ⟨A, c, K, e, B, d, rfl, hI, hZ, hK, he, hz⟩ := hp
  dsimp only at hI hZ hK he hz
  dsimp only
  refine callsR Try.func3 rfl rfl (by kernel_rfl) rfl ?_
  have hw := Below.refl w.heap.size w
  refine rk_seq ?_
  refine rk_region ?_
  refine wl_boxg [_, _, _] rfl (by rfl) ?_
  rintro g4 w4 f4 b4 i4 i4_1
  have s4 := b4.size
  replace hw := hw.trans (b4.mono hw.size)
  refine wl_p (fun _ => o_assign rfl) ?_
  refine wl_nil ?_
  refine rk_seq ?_
  refine rk_seq ?_
  refine rk_region ?_
  refine wl_call rfl (C_lives11 _) ?_
  rintro v18 w18 ⟨rfl, b18⟩
  have s18 := b18.size
  replace hw := hw.trans (b18.mono hw.size)
  replace f4 := f4.u b18
  refine wl_p (fun _ => o_not rfl) ?_
  refine wl_nil ?_
  refine rk_false rfl ?_
  refine rk_skip ?_
  refine rk_seq ?_
  refine rk_seq ?_
  refine rk_region ?_
  refine wl_r (o_loadag Try.isAgg26 Try.sizeOf26 rfl f4 (by rfl)) ?_
  refine wl_call rfl (C_LightNode _ (hI.u hw) (hK.u hw) rfl (by rfl) rfl) ?_
  rintro v21 w21 ⟨b21, ⟨rfl, ⟨i21, b21_1⟩⟩⟩
  have s21 := b21_1.size
  replace hw := hw.trans (b21_1.mono hw.size)
  replace f4 := f4.u b21_1
  refine wl_p (fun _ => o_not rfl) ?_
  refine wl_p (fun _ => o_move rfl) ?_
  refine wl_bool 23 rfl (fun h23 => ?_) (fun h23 => ?_) <;> try simp only [decide_eq_true_eq, decide_eq_false_iff_not, Bool.not_eq_true', Bool.not_eq_false', Bool.and_eq_true, Bool.and_eq_false_iff, Bool.or_eq_true, Bool.or_eq_false_iff] at h23
  · refine wl_off ?_
    refine wl_off ?_
    refine wl_off ?_
    refine wl_p (fun _ => o_pick_t rfl rfl) ?_
    refine wl_p (fun _ => o_move rfl) ?_
    refine wl_off ?_
    refine wl_off ?_
    refine wl_off ?_
    refine wl_p (fun _ => o_pick_t rfl rfl) ?_
    refine wl_p (fun _ => o_move rfl) ?_
    refine wl_off ?_
    refine wl_off ?_
    refine wl_off ?_
    refine wl_p (fun _ => o_pick_t rfl rfl) ?_
    refine wl_nil ?_
    refine rk_true rfl ?_
    refine rk_seq ?_
    refine rk_region ?_
    refine wl_p (fun _ => o_assign rfl) ?_
    refine wl_nil ?_
    refine ret1 rfl rfl ?_
    exact ⟨rfl, hw⟩
  have hN : LightN items kids keys := i21.1 h23
  refine wl_p (fun _ => o_move rfl) ?_
  refine wl_p (fun _ => o_len (t := 27) Try.underlying27 rfl) ?_
  refine wl_p (fun _ => o_gt rfl rfl) ?_
  refine wl_p (fun _ => o_pick_f rfl rfl) ?_
  refine wl_p (fun _ => o_move rfl) ?_
  refine wl_bool 28 rfl (fun h28 => ?_) (fun h28 => ?_) <;> try simp only [decide_eq_true_eq, decide_eq_false_iff_not, Bool.not_eq_true', Bool.not_eq_false', Bool.and_eq_true, Bool.and_eq_false_iff, Bool.or_eq_true, Bool.or_eq_false_iff] at h28
  · refine wl_off ?_
    refine wl_off ?_
    refine wl_off ?_
    refine wl_p (fun _ => o_pick_t rfl rfl) ?_
    refine wl_p (fun _ => o_move rfl) ?_
    refine wl_off ?_
    refine wl_off ?_
    refine wl_off ?_
    refine wl_p (fun _ => o_pick_t rfl rfl) ?_
    refine wl_nil ?_
    refine rk_true rfl ?_
    refine rk_seq ?_
    refine rk_region ?_
    refine wl_p (fun _ => o_assign rfl) ?_
    refine wl_nil ?_
    refine ret1 rfl rfl ?_
    exact ⟨rfl, hw⟩
  refine wl_p (fun _ => o_move rfl) ?_
  refine wl_p (fun _ => o_len (t := 27) Try.underlying27 rfl) ?_
  refine wl_p (fun _ => o_gt rfl rfl) ?_
  refine wl_p (fun _ => o_pick_f rfl rfl) ?_
  refine wl_p (fun _ => o_move rfl) ?_
  refine wl_bool 33 rfl (fun h33 => ?_) (fun h33 => ?_) <;> try simp only [decide_eq_true_eq, decide_eq_false_iff_not, Bool.not_eq_true', Bool.not_eq_false', Bool.and_eq_true, Bool.and_eq_false_iff, Bool.or_eq_true, Bool.or_eq_false_iff] at h33
  · refine wl_off ?_
    refine wl_off ?_
    refine wl_off ?_
    refine wl_p (fun _ => o_pick_t rfl rfl) ?_
    refine wl_nil ?_
    refine rk_true rfl ?_
    refine rk_seq ?_
    refine rk_region ?_
    refine wl_p (fun _ => o_assign rfl) ?_
    refine wl_nil ?_
    refine ret1 rfl rfl ?_
    exact ⟨rfl, hw⟩
  refine wl_p (fun _ => o_move rfl) ?_
  refine wl_p (fun _ => o_len (t := 27) Try.underlying27 rfl) ?_
  refine wl_p (fun _ => o_gt rfl rfl) ?_
  refine wl_p (fun _ => o_pick_f rfl rfl) ?_
  refine wl_nil ?_
  refine rk_if rfl (fun h37 => ?_) (fun h37 => ?_)
  · refine rk_seq ?_
    refine rk_region ?_
    refine wl_p (fun _ => o_assign rfl) ?_
    refine wl_nil ?_
    refine ret1 rfl rfl ?_
    exact ⟨rfl, hw⟩
  obtain ⟨n1, n2, n3, n4, n5⟩ := hN
  have hl : LightI items := ⟨by omega, fun x hx => by have := n4 x hx; omega⟩
  have hlk : LightK keys := ⟨by omega, fun x hx => by have := n5 x hx; omega⟩
  refine rk_skip ?_
  refine rk_seq ?_
  refine rk_region ?_
  refine wl_p (fun _ => o_assign rfl) ?_
  refine wl_nil ?_
  refine rk_seq ?_
  refine rk_region ?_
  refine wl_p (fun _ => o_assign rfl) ?_
  refine wl_nil ?_
  refine rk_seq ?_
  refine rk_seq ?_
  refine rk_region ?_
  refine wl_p (fun _ => o_assign rfl) ?_
  refine wl_nil ?_
  refine rk_block ?_
  refine rk_joinf (fun fb fr w3 => ∃ (cn : Int) (th : Bool), fr = [(9, .int .i64 cn), (10, .bool th)] ++ fb.drop 3 ∧ cn = (items.countP (fun x : By × By => decide (cmpL x.1 key < 0)) : Nat) ∧ th = items.any (fun x : By × By => decide (x.1 = key)) ∧ Below w21.heap.size w21 w3) ?_ (fun ks hj => ?_)
  rotate_left
  · refine rk_loopf (fun fb m fr w3 => ∃ (i : Nat) (v : Int) (cn : Int) (th : Bool), fr = [(11, .int .i64 v), (10, .bool th), (9, .int .i64 cn)] ++ fb.drop 3 ∧ v = i ∧ i ≤ items.length ∧ m = items.length - i ∧ cn = ((items.take i).countP (fun x : By × By => decide (cmpL x.1 key < 0)) : Nat) ∧ th = (items.take i).any (fun x : By × By => decide (x.1 = key)) ∧ Below w21.heap.size w21 w3) (n := items.length) (Fr.le_of (by kernel_rfl) (by kernel_rfl) (by repeat' constructor)) ⟨0, _, _, _, rfl, rfl, by omega, rfl, rfl, rfl, Below.refl _ _⟩ ?_
    rintro m fr w3 ⟨i, v, cn, th, rfl, rfl, hi, rfl, hcn, hth, hw1⟩
    first | refine rk_frame (by simp only [List.cons_append, List.nil_append, List.drop_succ_cons, List.drop_zero]; rfl) ?_ | refine wl_frame (by simp only [List.cons_append, List.nil_append, List.drop_succ_cons, List.drop_zero]; rfl) ?_
    have shw1 := hw1.size
    replace hw := hw.trans (hw1.mono hw.size)
    replace f4 := f4.u hw1
    have hci : 0 ≤ cn ∧ cn ≤ 40 := by
      have : ((items.take i).countP (fun x : By × By => decide (cmpL x.1 key < 0))) ≤ (items.take i).length := List.countP_le_length
      rw [List.length_take] at this; omega
    refine rk_seq ?_
    refine rk_seq ?_
    refine rk_region ?_
    refine wl_p (fun _ => o_move rfl) ?_
    refine wl_p (fun _ => o_faddr (s := 26) (i := 0) (off := 0) Try.underlying26 rfl Try.sizeOf22 rfl rfl rfl) ?_
    refine wl_r (o_loadbg Try.isAgg22 rfl f4 (by rfl)) ?_
    refine wl_p (fun _ => o_len (t := 22) Try.underlying22 rfl) ?_
    refine wl_p (fun _ => o_lt rfl rfl) ?_
    refine wl_nil ?_
    refine rk_if rfl (fun h42 => ?_) (fun h42 => ?_)
    · have hil : i < items.length := by omega
      have hs1 : (items.take (i + 1)).countP (fun x : By × By => decide (cmpL x.1 key < 0)) = (items.take i).countP (fun x : By × By => decide (cmpL x.1 key < 0)) + (if cmpL items[i].1 key < 0 then 1 else 0) := by
        rw [List.take_succ_eq_append_getElem hil, List.countP_append, List.countP_singleton]; simp
      have hs2 : (items.take (i + 1)).any (fun x : By × By => decide (x.1 = key)) = ((items.take i).any (fun x : By × By => decide (x.1 = key)) || decide (items[i].1 = key)) := by
        rw [List.take_succ_eq_append_getElem hil, List.any_append]; simp
      refine rk_skip ?_
      refine rk_seq ?_
      refine rk_block ?_
      refine rk_seq ?_
      refine rk_seq ?_
      refine rk_draw (id := 10) (none) [0, 1, 0, 6, 8, 16, 32, 0, 128, 320] [0, 1, 0, 7, 15, 31, 63, 0, 128, 511] 0 0 [(.p, 0), (.r, 1), (.p, 2), (.p, 3), (.p, 4), (.r, 5), (.r, 6), (.p, 7), (.r, 8), (.p, 9)] (by kernel_rfl) (by kernel_rfl) (by kernel_rfl) (by kernel_rfl) (by kernel_rfl) ?_
      replace hw1 := hw1.drew
      replace hw := hw.drew
      replace f4 := f4.d
      refine wl_p (fun _ => o_faddr (s := 26) (i := 0) (off := 0) Try.underlying26 rfl Try.sizeOf22 rfl rfl rfl) ?_
      refine wl_r (o_loadbg Try.isAgg22 rfl f4 (by rfl)) ?_
      refine wl_p (fun _ => o_move rfl) ?_
      refine wl_p (fun _ => (o_iaddrA (i) Try.underlying22 Try.sizeOf31 rfl rfl rfl (hI.some_ (by omega)) (by omega))) ?_
      refine wl_p (fun _ => (o_faddrR rfl Try.underlying31 (by rfl) Try.sizeOf27 (by rfl) (by rfl))) ?_
      refine wl_ldKey rfl hI hw (by omega) ?_
      rintro A150 c150 f50 i50
      refine wl_r (o_strU Try.underlying27 Try.underlying5 Try.underlying9 rfl f50 hw rfl) ?_
      refine wl_p (fun _ => o_move rfl) ?_
      refine wl_r (o_strU Try.underlying27 Try.underlying5 Try.underlying9 rfl hC hw rfl) ?_
      refine wl_p (fun _ => o_slss rfl rfl) ?_
      refine wl_nild ?_
      refine rk_if rfl (fun h54 => ?_) (fun h54 => ?_)
      · rw [if_pos h54] at hs1
        refine rk_region ?_
        refine wl_p (fun _ => o_move rfl) ?_
        refine wl_p (fun _ => o_add rfl rfl (by omega) (by omega)) ?_
        refine wl_p (fun _ => o_assign rfl) ?_
        refine wl_nil ?_
        refine rk_draw (id := 12) (none) [0, 1, 2, 6, 2, 26, 34, 66, 130, 2, 514, 1282, 2050, 8191] [0, 1, 3, 7, 3, 31, 63, 127, 255, 3, 515, 2047, 4095, 8191] 0 0 [(.p, 0), (.p, 1), (.p, 2), (.r, 3), (.p, 4), (.p, 5), (.p, 6), (.r, 7), (.r, 8), (.p, 9), (.r, 10), (.p, 11), (.p, 12), (.p, 13)] (by kernel_rfl) (by kernel_rfl) (by kernel_rfl) (by kernel_rfl) (by kernel_rfl) ?_
        replace hw1 := hw1.drew
        replace hw := hw.drew
        replace f4 := f4.d
        refine wl_p (fun _ => o_move rfl) ?_
        refine wl_p (fun _ => o_move rfl) ?_
        refine wl_bool 58 rfl (fun h58 => ?_) (fun h58 => ?_) <;> try simp only [decide_eq_true_eq, decide_eq_false_iff_not, Bool.not_eq_true', Bool.not_eq_false', Bool.and_eq_true, Bool.and_eq_false_iff, Bool.or_eq_true, Bool.or_eq_false_iff] at h58
        · refine wl_off ?_
          refine wl_off ?_
          refine wl_off ?_
          refine wl_off ?_
          refine wl_off ?_
          refine wl_off ?_
          refine wl_off ?_
          refine wl_off ?_
          refine wl_off ?_
          refine wl_off ?_
          refine wl_p (fun _ => o_pick_t rfl rfl) ?_
          refine wl_p (fun _ => o_assign rfl) ?_
          refine wl_nild ?_
          refine rk_blk ?_
          refine rk_region ?_
          refine wl_p (fun _ => o_move rfl) ?_
          refine wl_p (fun _ => o_add rfl rfl (by omega) (by omega)) ?_
          refine wl_p (fun _ => o_assign rfl) ?_
          refine wl_nil ?_
          exact rk_againf (Fr.le_of (by kernel_rfl) (by kernel_rfl) (by repeat' constructor)) ⟨i + 1, (i : Int) + 1, _, _, rfl, by omega, by omega, rfl, by omega, by rw [hs2, ← hth, h58]; rfl, hw1⟩ (by omega)
        · refine wl_p (fun _ => o_faddr (s := 26) (i := 0) (off := 0) Try.underlying26 rfl Try.sizeOf22 rfl rfl rfl) ?_
          refine wl_r (o_loadbg Try.isAgg22 rfl f4 (by rfl)) ?_
          refine wl_p (fun _ => o_move rfl) ?_
          refine wl_p (fun _ => (o_iaddrA (i) Try.underlying22 Try.sizeOf31 rfl rfl rfl (hI.some_ (by omega)) (by omega))) ?_
          refine wl_p (fun _ => (o_faddrR rfl Try.underlying31 (by rfl) Try.sizeOf27 (by rfl) (by rfl))) ?_
          refine wl_ldKey rfl hI hw (by omega) ?_
          rintro A164 c164 f64 i64
          refine wl_r (o_strU Try.underlying27 Try.underlying5 Try.underlying9 rfl f64 hw rfl) ?_
          refine wl_p (fun _ => o_move rfl) ?_
          refine wl_r (o_strU Try.underlying27 Try.underlying5 Try.underlying9 rfl hC hw rfl) ?_
          refine wl_p (fun _ => o_seq rfl rfl) ?_
          refine wl_p (fun _ => o_pick_f rfl rfl) ?_
          refine wl_p (fun _ => o_assign rfl) ?_
          refine wl_nild ?_
          refine rk_blk ?_
          refine rk_region ?_
          refine wl_p (fun _ => o_move rfl) ?_
          refine wl_p (fun _ => o_add rfl rfl (by omega) (by omega)) ?_
          refine wl_p (fun _ => o_assign rfl) ?_
          refine wl_nil ?_
          exact rk_againf (Fr.le_of (by kernel_rfl) (by kernel_rfl) (by repeat' constructor)) ⟨i + 1, (i : Int) + 1, _, _, rfl, by omega, by omega, rfl, by omega, by rw [hs2, ← hth, h58]; rfl, hw1⟩ (by omega)
      · rw [if_neg h54] at hs1
        refine rk_skip ?_
        refine rk_draw (id := 12) (none) [0, 1, 2, 6, 2, 26, 34, 66, 130, 2, 514, 1282, 2050, 8191] [0, 1, 3, 7, 3, 31, 63, 127, 255, 3, 515, 2047, 4095, 8191] 0 0 [(.p, 0), (.p, 1), (.p, 2), (.r, 3), (.p, 4), (.p, 5), (.p, 6), (.r, 7), (.r, 8), (.p, 9), (.r, 10), (.p, 11), (.p, 12), (.p, 13)] (by kernel_rfl) (by kernel_rfl) (by kernel_rfl) (by kernel_rfl) (by kernel_rfl) ?_
        replace hw1 := hw1.drew
        replace hw := hw.drew
        replace f4 := f4.d
        refine wl_p (fun _ => o_move rfl) ?_
        refine wl_p (fun _ => o_move rfl) ?_
        refine wl_bool 58 rfl (fun h58 => ?_) (fun h58 => ?_) <;> try simp only [decide_eq_true_eq, decide_eq_false_iff_not, Bool.not_eq_true', Bool.not_eq_false', Bool.and_eq_true, Bool.and_eq_false_iff, Bool.or_eq_true, Bool.or_eq_false_iff] at h58
        · refine wl_off ?_
          refine wl_off ?_
          refine wl_off ?_
          refine wl_off ?_
          refine wl_off ?_
          refine wl_off ?_
          refine wl_off ?_
          refine wl_off ?_
          refine wl_off ?_
          refine wl_off ?_
          refine wl_p (fun _ => o_pick_t rfl rfl) ?_
          refine wl_p (fun _ => o_assign rfl) ?_
          refine wl_nild ?_
          refine rk_blk ?_
          refine rk_region ?_
          refine wl_p (fun _ => o_move rfl) ?_
          refine wl_p (fun _ => o_add rfl rfl (by omega) (by omega)) ?_
          refine wl_p (fun _ => o_assign rfl) ?_
          refine wl_nil ?_
          exact rk_againf (Fr.le_of (by kernel_rfl) (by kernel_rfl) (by repeat' constructor)) ⟨i + 1, (i : Int) + 1, _, _, rfl, by omega, by omega, rfl, by omega, by rw [hs2, ← hth, h58]; rfl, hw1⟩ (by omega)
        · refine wl_p (fun _ => o_faddr (s := 26) (i := 0) (off := 0) Try.underlying26 rfl Try.sizeOf22 rfl rfl rfl) ?_
          refine wl_r (o_loadbg Try.isAgg22 rfl f4 (by rfl)) ?_
          refine wl_p (fun _ => o_move rfl) ?_
          refine wl_p (fun _ => (o_iaddrA (i) Try.underlying22 Try.sizeOf31 rfl rfl rfl (hI.some_ (by omega)) (by omega))) ?_
          refine wl_p (fun _ => (o_faddrR rfl Try.underlying31 (by rfl) Try.sizeOf27 (by rfl) (by rfl))) ?_
          refine wl_ldKey rfl hI hw (by omega) ?_
          rintro A164 c164 f64 i64
          refine wl_r (o_strU Try.underlying27 Try.underlying5 Try.underlying9 rfl f64 hw rfl) ?_
          refine wl_p (fun _ => o_move rfl) ?_
          refine wl_r (o_strU Try.underlying27 Try.underlying5 Try.underlying9 rfl hC hw rfl) ?_
          refine wl_p (fun _ => o_seq rfl rfl) ?_
          refine wl_p (fun _ => o_pick_f rfl rfl) ?_
          refine wl_p (fun _ => o_assign rfl) ?_
          refine wl_nild ?_
          refine rk_blk ?_
          refine rk_region ?_
          refine wl_p (fun _ => o_move rfl) ?_
          refine wl_p (fun _ => o_add rfl rfl (by omega) (by omega)) ?_
          refine wl_p (fun _ => o_assign rfl) ?_
          refine wl_nil ?_
          exact rk_againf (Fr.le_of (by kernel_rfl) (by kernel_rfl) (by repeat' constructor)) ⟨i + 1, (i : Int) + 1, _, _, rfl, by omega, by omega, rfl, by omega, by rw [hs2, ← hth, h58]; rfl, hw1⟩ (by omega)
    · refine rk_exit rfl ?_
      have hii : i = items.length := by omega
      subst hii
      rw [List.take_length] at hcn hth
      exact rk_tof hj (Fr.le_of (by kernel_rfl) (by kernel_rfl) (by repeat' constructor)) ⟨_, _, rfl, hcn, hth, hw1⟩
  rintro fr w3 ⟨less, there, rfl, hless, hthere, hw1⟩
  first | refine rk_frame (by simp only [List.cons_append, List.nil_append, List.drop_succ_cons, List.drop_zero]; rfl) ?_ | refine wl_frame (by simp only [List.cons_append, List.nil_append, List.drop_succ_cons, List.drop_zero]; rfl) ?_
  have shw1 := hw1.size
  replace hw := hw.trans (hw1.mono hw.size)
  replace f4 := f4.u hw1
  refine rk_seq ?_
  refine rk_region ?_
  refine wl_p (fun _ => o_assign rfl) ?_
  refine wl_nil ?_
  refine rk_seq ?_
  refine rk_seq ?_
  refine rk_region ?_
  refine wl_p (fun _ => o_assign rfl) ?_
  refine wl_nil ?_
  refine rk_block ?_
  refine rk_joinf (fun fb fr w4 => ∃ (cn : Int), fr = [(12, .int .i64 cn)] ++ fb.drop 2 ∧ cn = (keys.countP (fun x : By => decide (cmpL x key ≤ 0)) : Nat) ∧ Below w3.heap.size w3 w4) ?_ (fun ks hj => ?_)
  rotate_left
  · refine rk_loopf (fun fb m fr w4 => ∃ (i : Nat) (v : Int) (cn : Int), fr = [(13, .int .i64 v), (12, .int .i64 cn)] ++ fb.drop 2 ∧ v = i ∧ i ≤ keys.length ∧ m = keys.length - i ∧ cn = ((keys.take i).countP (fun x : By => decide (cmpL x key ≤ 0)) : Nat) ∧ Below w3.heap.size w3 w4) (n := keys.length) (Fr.le_of (by kernel_rfl) (by kernel_rfl) (by repeat' constructor)) ⟨0, _, _, rfl, rfl, by omega, rfl, rfl, Below.refl _ _⟩ ?_
    rintro m fr w4 ⟨i, v, cn, rfl, rfl, hi, rfl, hcn, hw2⟩
    first | refine rk_frame (by simp only [List.cons_append, List.nil_append, List.drop_succ_cons, List.drop_zero]; rfl) ?_ | refine wl_frame (by simp only [List.cons_append, List.nil_append, List.drop_succ_cons, List.drop_zero]; rfl) ?_
    have shw2 := hw2.size
    replace hw1 := hw1.trans (hw2.mono hw1.size)
    replace hw := hw.trans (hw2.mono hw.size)
    replace f4 := f4.u hw2
    have hci : 0 ≤ cn ∧ cn ≤ 40 := by
      have : ((keys.take i).countP (fun x : By => decide (cmpL x key ≤ 0))) ≤ (keys.take i).length := List.countP_le_length
      rw [List.length_take] at this; omega
    refine rk_seq ?_
    refine rk_seq ?_
    refine rk_region ?_
    refine wl_p (fun _ => o_move rfl) ?_
    refine wl_p (fun _ => o_faddr (s := 26) (i := 2) (off := 2) Try.underlying26 rfl Try.sizeOf24 rfl rfl rfl) ?_
    refine wl_r (o_loadbg Try.isAgg24 rfl f4 (by rfl)) ?_
    refine wl_p (fun _ => o_len (t := 24) Try.underlying24 rfl) ?_
    refine wl_p (fun _ => o_lt rfl rfl) ?_
    refine wl_nil ?_
    refine rk_if rfl (fun h74 => ?_) (fun h74 => ?_)
    · have hil : i < keys.length := by omega
      have hs1 : (keys.take (i + 1)).countP (fun x : By => decide (cmpL x key ≤ 0)) = (keys.take i).countP (fun x : By => decide (cmpL x key ≤ 0)) + (if cmpL keys[i] key ≤ 0 then 1 else 0) := by
        rw [List.take_succ_eq_append_getElem hil, List.countP_append, List.countP_singleton]; simp
      refine rk_skip ?_
      refine rk_seq ?_
      refine rk_block ?_
      refine rk_seq ?_
      refine rk_draw (id := 17) (none) [0, 1, 0, 6, 8, 16, 0, 64, 160] [0, 1, 0, 7, 15, 31, 0, 64, 255] 0 0 [(.p, 0), (.r, 1), (.p, 2), (.p, 3), (.r, 4), (.r, 5), (.p, 6), (.r, 7), (.p, 8)] (by kernel_rfl) (by kernel_rfl) (by kernel_rfl) (by kernel_rfl) (by kernel_rfl) ?_
      replace hw2 := hw2.drew
      replace hw1 := hw1.drew
      replace hw := hw.drew
      replace f4 := f4.d
      refine wl_p (fun _ => o_faddr (s := 26) (i := 2) (off := 2) Try.underlying26 rfl Try.sizeOf24 rfl rfl rfl) ?_
      refine wl_r (o_loadbg Try.isAgg24 rfl f4 (by rfl)) ?_
      refine wl_p (fun _ => o_move rfl) ?_
      refine wl_p (fun _ => (o_iaddrA1 (i) Try.underlying24 Try.sizeOf27 rfl rfl rfl (hK.some_ (by omega)) (by omega))) ?_
      refine wl_ldKy rfl hK hw (by omega) ?_
      rintro A181 c181 f81 i81
      refine wl_r (o_strU Try.underlying27 Try.underlying5 Try.underlying9 rfl f81 hw rfl) ?_
      refine wl_p (fun _ => o_move rfl) ?_
      refine wl_r (o_strU Try.underlying27 Try.underlying5 Try.underlying9 rfl hC hw rfl) ?_
      refine wl_p (fun _ => o_sleq rfl rfl) ?_
      refine wl_nild ?_
      refine rk_if rfl (fun h85 => ?_) (fun h85 => ?_)
      · rw [if_pos h85] at hs1
        refine rk_region ?_
        refine wl_p (fun _ => o_move rfl) ?_
        refine wl_p (fun _ => o_add rfl rfl (by omega) (by omega)) ?_
        refine wl_p (fun _ => o_assign rfl) ?_
        refine wl_nil ?_
        refine rk_blk ?_
        refine rk_region ?_
        refine wl_p (fun _ => o_move rfl) ?_
        refine wl_p (fun _ => o_add rfl rfl (by omega) (by omega)) ?_
        refine wl_p (fun _ => o_assign rfl) ?_
        refine wl_nil ?_
        exact rk_againf (Fr.le_of (by kernel_rfl) (by kernel_rfl) (by repeat' constructor)) ⟨i + 1, (i : Int) + 1, _, rfl, by omega, by omega, rfl, by omega, hw2⟩ (by omega)
      · rw [if_neg h85] at hs1
        refine rk_skip ?_
        refine rk_blk ?_
        refine rk_region ?_
        refine wl_p (fun _ => o_move rfl) ?_
        refine wl_p (fun _ => o_add rfl rfl (by omega) (by omega)) ?_
        refine wl_p (fun _ => o_assign rfl) ?_
        refine wl_nil ?_
        exact rk_againf (Fr.le_of (by kernel_rfl) (by kernel_rfl) (by repeat' constructor)) ⟨i + 1, (i : Int) + 1, _, rfl, by omega, by omega, rfl, by omega, hw2⟩ (by omega)
    · refine rk_exit rfl ?_
      have hii : i = keys.length := by omega
      subst hii
      rw [List.take_length] at hcn
      exact rk_tof hj (Fr.le_of (by kernel_rfl) (by kernel_rfl) (by repeat' constructor)) ⟨_, rfl, hcn, hw2⟩
  rintro fr w4 ⟨nt, rfl, hnt, hw2⟩
  first | refine rk_frame (by simp only [List.cons_append, List.nil_append, List.drop_succ_cons, List.drop_zero]; rfl) ?_ | refine wl_frame (by simp only [List.cons_append, List.nil_append, List.drop_succ_cons, List.drop_zero]; rfl) ?_
  have shw2 := hw2.size
  replace hw1 := hw1.trans (hw2.mono hw1.size)
  replace hw := hw.trans (hw2.mono hw.size)
  replace f4 := f4.u hw2
  refine rk_seq ?_
  refine rk_region ?_
  refine wl_r (o_loadag Try.isAgg26 Try.sizeOf26 rfl f4 (by rfl)) ?_
  refine wl_p (fun _ => o_move rfl) ?_
  refine wl_call rfl (C_leafFind _ (hI.u hw) (hZ.u hw) (hK.u hw) (hC.u hw) rfl rfl rfl rfl (by omega) (by omega) (by omega) (by omega) (by omega) (by omega)) ?_
  rintro v91 w91 ⟨k91, ⟨ok91, ⟨rfl, ⟨i91, b91⟩⟩⟩⟩
  have s91 := b91.size
  replace hw2 := hw2.trans (b91.mono hw2.size)
  replace hw1 := hw1.trans (b91.mono hw1.size)
  replace hw := hw.trans (b91.mono hw.size)
  replace f4 := f4.u b91
  refine wl_p (fun _ => o_move rfl) ?_
  refine wl_p (fun _ => o_ext20 rfl) ?_
  refine wl_p (fun _ => o_ext21 rfl) ?_
  refine wl_p (fun _ => o_assign rfl) ?_
  refine wl_p (fun _ => o_assign rfl) ?_
  refine wl_nil ?_
  refine rk_seq ?_
  refine rk_region ?_
  refine wl_r (o_loadag Try.isAgg26 Try.sizeOf26 rfl f4 (by rfl)) ?_
  refine wl_p (fun _ => o_move rfl) ?_
  refine wl_call rfl (C_leafKid _ (hI.u hw) (hZ.u hw) (hK.u hw) (hC.u hw) rfl rfl rfl rfl (by omega) (by omega) (by omega) (by omega) (by omega) (by omega)) ?_
  rintro v96 w96 ⟨z96, ⟨rfl, ⟨i96, b96⟩⟩⟩
  have s96 := b96.size
  replace hw2 := hw2.trans (b96.mono hw2.size)
  replace hw1 := hw1.trans (b96.mono hw1.size)
  replace hw := hw.trans (b96.mono hw.size)
  replace f4 := f4.u b96
  refine wl_p (fun _ => o_assign rfl) ?_
  refine wl_nil ?_
  refine rk_seq ?_
  refine rk_seq ?_
  refine rk_region ?_
  refine wl_r (o_loadag Try.isAgg26 Try.sizeOf26 rfl f4 (by rfl)) ?_
  refine wl_call rfl (C_leafCheck _ (hI.u hw) (hZ.u hw) (hK.u hw) rfl rfl rfl (by omega) (by omega) (by omega) (by omega) (by omega)) ?_
  rintro v98 w98 ⟨z98, ⟨rfl, ⟨i98, ⟨i98_1, b98⟩⟩⟩⟩
  have s98 := b98.size
  replace hw2 := hw2.trans (b98.mono hw2.size)
  replace hw1 := hw1.trans (b98.mono hw1.size)
  replace hw := hw.trans (b98.mono hw.size)
  replace f4 := f4.u b98
  refine wl_p (fun _ => o_ne rfl rfl) ?_
  refine wl_nil ?_
  refine rk_if rfl (fun h99 => ?_) (fun h99 => ?_)
  · have hnw : ¬WholeN items kids keys := fun h => h99 (i98_1.2 h)
    obtain ⟨rfl, rfl⟩ := i91.2 (fun h => hnw h.1)
    obtain rfl : z96 = -1 := i96.2 (fun h => hnw h.1)
    refine rk_seq ?_
    refine rk_region ?_
    refine wl_p (fun _ => o_move rfl) ?_
    refine wl_p (fun _ => o_eq rfl rfl) ?_
    refine wl_p (fun _ => o_move rfl) ?_
    refine wl_p (fun _ => o_move rfl) ?_
    refine wl_p (fun _ => o_not rfl) ?_
    refine wl_p (fun _ => o_pick_t rfl rfl) ?_
    refine wl_p (fun _ => o_move rfl) ?_
    refine wl_p (fun _ => o_move rfl) ?_
    refine wl_p (fun _ => o_eq rfl rfl) ?_
    refine wl_p (fun _ => o_pick_t rfl rfl) ?_
    refine wl_p (fun _ => o_assign rfl) ?_
    refine wl_nil ?_
    refine ret1 rfl rfl ?_
    exact ⟨by simp, hw⟩
  have hW : WholeN items kids keys := i98_1.1 (by omega)
  have hneg := cmpL_neg b a
  have hleaf : kids.length = 0 → k91 ≤ items.length → (∀ j (h : j < items.length), j < k91 → cmpL items[j].1 key < 0) → (∀ h : k91 < items.length, 0 ≤ cmpL items[k91].1 key ∧ (ok91 = true ↔ cmpL items[k91].1 key = 0)) → (k91 = items.length → ok91 = false) → less = (k91 : Int) ∧ there = ok91 := fun hk0 g1 g2 g3 g4 => by
    have hW2 : WholeL items keys := by unfold WholeN at hW; rwa [if_pos hk0] at hW
    have := find_law (l := items.map Prod.fst) (key := key) (k := k91) (ok := ok91) (fun i hi h0 => by
        rw [List.length_map] at hi
        simpa using (hW2.2.2 i hi).2.2 h0) (by simpa using g1) (fun j hj hjk => by
        rw [List.length_map] at hj
        simpa using g2 j hj hjk) (fun h => by
        rw [List.length_map] at h
        simpa using g3 h) (by simpa using g4)
    rw [List.countP_map, List.any_map] at this
    exact ⟨by rw [hless, ← this.1]; rfl, by rw [hthere, ← this.2]; rfl⟩
  have f91z : kids.length ≠ 0 → k91 = 0 ∧ ok91 = false := fun hk0 => i91.2 (fun h => hk0 h.2)
  have hbr : kids.length ≠ 0 → z96 = nt := fun hk0 => by
    have hW2 : WholeB items kids keys := by unfold WholeN at hW; rwa [if_neg hk0] at hW
    obtain ⟨k, rfl, g1, g2, g3⟩ := i96.1 ⟨hW, hk0⟩
    rw [hnt, kid_law (fun i hi h0 => (hW2.2.2.2.2.2 i hi).2 h0) g1 g2 g3]
  clear hless hthere hnt
  refine rk_skip ?_
  refine rk_seq ?_
  refine rk_region ?_
  refine wl_p (fun _ => o_assign rfl) ?_
  refine wl_nil ?_
  refine rk_seq ?_
  refine rk_seq ?_
  refine rk_region ?_
  refine wl_p (fun _ => o_move rfl) ?_
  refine wl_r (o_strU Try.underlying27 Try.underlying5 Try.underlying9 rfl hD hw rfl) ?_
  refine wl_p (fun _ => o_move rfl) ?_
  refine wl_r (o_strU Try.underlying27 Try.underlying5 Try.underlying9 rfl hE hw rfl) ?_
  refine wl_p (fun _ => o_slss rfl rfl) ?_
  refine wl_nil ?_
  rcases cmpL_one a b with hab | hab | hab
  · refine rk_if rfl (fun h114 => ?_) (fun h114 => h114.elim (by omega))
    refine rk_region ?_
    refine wl_p (fun _ => o_assign rfl) ?_
    refine wl_nil ?_
    refine rk_seq ?_
    refine rk_seq ?_
    refine rk_region ?_
    refine wl_p (fun _ => o_move rfl) ?_
    refine wl_r (o_strU Try.underlying27 Try.underlying5 Try.underlying9 rfl hD hw rfl) ?_
    refine wl_p (fun _ => o_move rfl) ?_
    refine wl_r (o_strU Try.underlying27 Try.underlying5 Try.underlying9 rfl hE hw rfl) ?_
    refine wl_p (fun _ => o_sgtr rfl rfl) ?_
    refine wl_nil ?_
    refine rk_if rfl (fun h119 => absurd h119 (by omega)) (fun h119 => ?_)
    refine rk_skip ?_
    refine rk_seq ?_
    refine rk_seq ?_
    refine rk_region ?_
    refine wl_p (fun _ => o_move rfl) ?_
    refine wl_p (fun _ => o_move rfl) ?_
    refine wl_call rfl (C_leafCompare _ (hD.u hw) (hE.u hw) rfl rfl (by omega) (by omega)) ?_
    rintro v122 w122 ⟨rfl, b122⟩
    have s122 := b122.size
    replace hw2 := hw2.trans (b122.mono hw2.size)
    replace hw1 := hw1.trans (b122.mono hw1.size)
    replace hw := hw.trans (b122.mono hw.size)
    replace f4 := f4.u b122
    refine wl_p (fun _ => o_move rfl) ?_
    refine wl_p (fun _ => o_ne rfl rfl) ?_
    refine wl_p (fun _ => o_move rfl) ?_
    refine wl_know 125 false rfl (decide_eq_false (by omega)) ?_
    refine wl_p (fun _ => o_move rfl) ?_
    refine wl_p (fun _ => o_move rfl) ?_
    refine wl_call rfl (C_leafCompare _ (hE.u hw) (hD.u hw) rfl rfl (by omega) (by omega)) ?_
    rintro v128 w128 ⟨rfl, b128⟩
    have s128 := b128.size
    replace hw2 := hw2.trans (b128.mono hw2.size)
    replace hw1 := hw1.trans (b128.mono hw1.size)
    replace hw := hw.trans (b128.mono hw.size)
    replace f4 := f4.u b128
    refine wl_p (fun _ => o_move rfl) ?_
    refine wl_p (fun _ => o_neg64 rfl (by omega) (by omega)) ?_
    refine wl_p (fun _ => o_ne rfl rfl) ?_
    refine wl_p (fun _ => o_pick_f rfl rfl) ?_
    refine wl_nil ?_
    refine rk_if rfl (fun h132 => absurd h132 (by omega)) (fun h132 => ?_)
    refine rk_skip ?_
    refine rk_seq ?_
    refine rk_seq ?_
    refine rk_region ?_
    refine wl_r (o_loadag Try.isAgg26 Try.sizeOf26 rfl f4 (by rfl)) ?_
    refine wl_call rfl (C_leafLeaf _) ?_
    rintro v134 w134 ⟨rfl, b134⟩
    have s134 := b134.size
    replace hw2 := hw2.trans (b134.mono hw2.size)
    replace hw1 := hw1.trans (b134.mono hw1.size)
    replace hw := hw.trans (b134.mono hw.size)
    replace f4 := f4.u b134
    refine wl_nil ?_
    by_cases hk0 : kids.length = 0
    · obtain ⟨g1, g2, g3, g4⟩ := i91.1 ⟨hW, hk0⟩
      obtain rfl : z96 = -1 := i96.2 (fun h => h.2 hk0)
      obtain ⟨rfl, rfl⟩ := hleaf hk0 g1 g2 g3 g4
      refine rk_if rfl (fun h134 => ?_) (fun h134 => h134.elim (by omega))
      refine rk_seq ?_
      refine rk_region ?_
      refine wl_p (fun _ => o_move rfl) ?_
      refine wl_p (fun _ => o_move rfl) ?_
      refine wl_p (fun _ => o_eq rfl rfl) ?_
      refine wl_p (fun _ => o_move rfl) ?_
      refine wl_know 138 true rfl (decide_eq_true (by omega)) ?_
      refine wl_p (fun _ => o_move rfl) ?_
      refine wl_p (fun _ => o_move rfl) ?_
      refine wl_p (fun _ => o_beq (t := 4) Try.underlying4 rfl rfl) ?_
      refine wl_p (fun _ => o_pick_t rfl rfl) ?_
      refine wl_p (fun _ => o_move rfl) ?_
      refine wl_know 143 true rfl (by simp) ?_
      refine wl_p (fun _ => o_move rfl) ?_
      refine wl_p (fun _ => o_eq rfl rfl) ?_
      refine wl_p (fun _ => o_pick_t rfl rfl) ?_
      refine wl_p (fun _ => o_assign rfl) ?_
      refine wl_nil ?_
      refine ret1 rfl rfl ?_
      exact ⟨by simp, hw⟩
    · obtain ⟨rfl, rfl⟩ := f91z hk0
      obtain rfl := hbr hk0
      refine rk_if rfl (fun h134 => absurd h134 (by omega)) (fun h134 => ?_)
      refine rk_skip ?_
      refine rk_seq ?_
      refine rk_region ?_
      refine wl_p (fun _ => o_move rfl) ?_
      refine wl_p (fun _ => o_eq rfl rfl) ?_
      refine wl_p (fun _ => o_move rfl) ?_
      refine wl_p (fun _ => o_move rfl) ?_
      refine wl_p (fun _ => o_not rfl) ?_
      refine wl_p (fun _ => o_pick_t rfl rfl) ?_
      refine wl_p (fun _ => o_move rfl) ?_
      refine wl_p (fun _ => o_move rfl) ?_
      refine wl_p (fun _ => o_move rfl) ?_
      refine wl_p (fun _ => o_eq rfl rfl) ?_
      refine wl_p (fun _ => o_pick_t rfl rfl) ?_
      refine wl_p (fun _ => o_assign rfl) ?_
      refine wl_nil ?_
      refine ret1 rfl rfl ?_
      exact ⟨by simp, hw⟩
  · refine rk_if rfl (fun h114 => absurd h114 (by omega)) (fun h114 => ?_)
    refine rk_skip ?_
    refine rk_seq ?_
    refine rk_seq ?_
    refine rk_region ?_
    refine wl_p (fun _ => o_move rfl) ?_
    refine wl_r (o_strU Try.underlying27 Try.underlying5 Try.underlying9 rfl hD hw rfl) ?_
    refine wl_p (fun _ => o_move rfl) ?_
    refine wl_r (o_strU Try.underlying27 Try.underlying5 Try.underlying9 rfl hE hw rfl) ?_
    refine wl_p (fun _ => o_sgtr rfl rfl) ?_
    refine wl_nil ?_
    refine rk_if rfl (fun h119 => absurd h119 (by omega)) (fun h119 => ?_)
    refine rk_skip ?_
    refine rk_seq ?_
    refine rk_seq ?_
    refine rk_region ?_
    refine wl_p (fun _ => o_move rfl) ?_
    refine wl_p (fun _ => o_move rfl) ?_
    refine wl_call rfl (C_leafCompare _ (hD.u hw) (hE.u hw) rfl rfl (by omega) (by omega)) ?_
    rintro v122 w122 ⟨rfl, b122⟩
    have s122 := b122.size
    replace hw2 := hw2.trans (b122.mono hw2.size)
    replace hw1 := hw1.trans (b122.mono hw1.size)
    replace hw := hw.trans (b122.mono hw.size)
    replace f4 := f4.u b122
    refine wl_p (fun _ => o_move rfl) ?_
    refine wl_p (fun _ => o_ne rfl rfl) ?_
    refine wl_p (fun _ => o_move rfl) ?_
    refine wl_know 125 false rfl (decide_eq_false (by omega)) ?_
    refine wl_p (fun _ => o_move rfl) ?_
    refine wl_p (fun _ => o_move rfl) ?_
    refine wl_call rfl (C_leafCompare _ (hE.u hw) (hD.u hw) rfl rfl (by omega) (by omega)) ?_
    rintro v128 w128 ⟨rfl, b128⟩
    have s128 := b128.size
    replace hw2 := hw2.trans (b128.mono hw2.size)
    replace hw1 := hw1.trans (b128.mono hw1.size)
    replace hw := hw.trans (b128.mono hw.size)
    replace f4 := f4.u b128
    refine wl_p (fun _ => o_move rfl) ?_
    refine wl_p (fun _ => o_neg64 rfl (by omega) (by omega)) ?_
    refine wl_p (fun _ => o_ne rfl rfl) ?_
    refine wl_p (fun _ => o_pick_f rfl rfl) ?_
    refine wl_nil ?_
    refine rk_if rfl (fun h132 => absurd h132 (by omega)) (fun h132 => ?_)
    refine rk_skip ?_
    refine rk_seq ?_
    refine rk_seq ?_
    refine rk_region ?_
    refine wl_r (o_loadag Try.isAgg26 Try.sizeOf26 rfl f4 (by rfl)) ?_
    refine wl_call rfl (C_leafLeaf _) ?_
    rintro v134 w134 ⟨rfl, b134⟩
    have s134 := b134.size
    replace hw2 := hw2.trans (b134.mono hw2.size)
    replace hw1 := hw1.trans (b134.mono hw1.size)
    replace hw := hw.trans (b134.mono hw.size)
    replace f4 := f4.u b134
    refine wl_nil ?_
    by_cases hk0 : kids.length = 0
    · obtain ⟨g1, g2, g3, g4⟩ := i91.1 ⟨hW, hk0⟩
      obtain rfl : z96 = -1 := i96.2 (fun h => h.2 hk0)
      obtain ⟨rfl, rfl⟩ := hleaf hk0 g1 g2 g3 g4
      refine rk_if rfl (fun h134 => ?_) (fun h134 => h134.elim (by omega))
      refine rk_seq ?_
      refine rk_region ?_
      refine wl_p (fun _ => o_move rfl) ?_
      refine wl_p (fun _ => o_move rfl) ?_
      refine wl_p (fun _ => o_eq rfl rfl) ?_
      refine wl_p (fun _ => o_move rfl) ?_
      refine wl_know 138 true rfl (decide_eq_true (by omega)) ?_
      refine wl_p (fun _ => o_move rfl) ?_
      refine wl_p (fun _ => o_move rfl) ?_
      refine wl_p (fun _ => o_beq (t := 4) Try.underlying4 rfl rfl) ?_
      refine wl_p (fun _ => o_pick_t rfl rfl) ?_
      refine wl_p (fun _ => o_move rfl) ?_
      refine wl_know 143 true rfl (by simp) ?_
      refine wl_p (fun _ => o_move rfl) ?_
      refine wl_p (fun _ => o_eq rfl rfl) ?_
      refine wl_p (fun _ => o_pick_t rfl rfl) ?_
      refine wl_p (fun _ => o_assign rfl) ?_
      refine wl_nil ?_
      refine ret1 rfl rfl ?_
      exact ⟨by simp, hw⟩
    · obtain ⟨rfl, rfl⟩ := f91z hk0
      obtain rfl := hbr hk0
      refine rk_if rfl (fun h134 => absurd h134 (by omega)) (fun h134 => ?_)
      refine rk_skip ?_
      refine rk_seq ?_
      refine rk_region ?_
      refine wl_p (fun _ => o_move rfl) ?_
      refine wl_p (fun _ => o_eq rfl rfl) ?_
      refine wl_p (fun _ => o_move rfl) ?_
      refine wl_p (fun _ => o_move rfl) ?_
      refine wl_p (fun _ => o_not rfl) ?_
      refine wl_p (fun _ => o_pick_t rfl rfl) ?_
      refine wl_p (fun _ => o_move rfl) ?_
      refine wl_p (fun _ => o_move rfl) ?_
      refine wl_p (fun _ => o_move rfl) ?_
      refine wl_p (fun _ => o_eq rfl rfl) ?_
      refine wl_p (fun _ => o_pick_t rfl rfl) ?_
      refine wl_p (fun _ => o_assign rfl) ?_
      refine wl_nil ?_
      refine ret1 rfl rfl ?_
      exact ⟨by simp, hw⟩
  · refine rk_if rfl (fun h114 => absurd h114 (by omega)) (fun h114 => ?_)
    refine rk_skip ?_
    refine rk_seq ?_
    refine rk_seq ?_
    refine rk_region ?_
    refine wl_p (fun _ => o_move rfl) ?_
    refine wl_r (o_strU Try.underlying27 Try.underlying5 Try.underlying9 rfl hD hw rfl) ?_
    refine wl_p (fun _ => o_move rfl) ?_
    refine wl_r (o_strU Try.underlying27 Try.underlying5 Try.underlying9 rfl hE hw rfl) ?_
    refine wl_p (fun _ => o_sgtr rfl rfl) ?_
    refine wl_nil ?_
    refine rk_if rfl (fun h119 => ?_) (fun h119 => h119.elim (by omega))
    refine rk_region ?_
    refine wl_p (fun _ => o_assign rfl) ?_
    refine wl_nil ?_
    refine rk_seq ?_
    refine rk_seq ?_
    refine rk_region ?_
    refine wl_p (fun _ => o_move rfl) ?_
    refine wl_p (fun _ => o_move rfl) ?_
    refine wl_call rfl (C_leafCompare _ (hD.u hw) (hE.u hw) rfl rfl (by omega) (by omega)) ?_
    rintro v122 w122 ⟨rfl, b122⟩
    have s122 := b122.size
    replace hw2 := hw2.trans (b122.mono hw2.size)
    replace hw1 := hw1.trans (b122.mono hw1.size)
    replace hw := hw.trans (b122.mono hw.size)
    replace f4 := f4.u b122
    refine wl_p (fun _ => o_move rfl) ?_
    refine wl_p (fun _ => o_ne rfl rfl) ?_
    refine wl_p (fun _ => o_move rfl) ?_
    refine wl_know 125 false rfl (decide_eq_false (by omega)) ?_
    refine wl_p (fun _ => o_move rfl) ?_
    refine wl_p (fun _ => o_move rfl) ?_
    refine wl_call rfl (C_leafCompare _ (hE.u hw) (hD.u hw) rfl rfl (by omega) (by omega)) ?_
    rintro v128 w128 ⟨rfl, b128⟩
    have s128 := b128.size
    replace hw2 := hw2.trans (b128.mono hw2.size)
    replace hw1 := hw1.trans (b128.mono hw1.size)
    replace hw := hw.trans (b128.mono hw.size)
    replace f4 := f4.u b128
    refine wl_p (fun _ => o_move rfl) ?_
    refine wl_p (fun _ => o_neg64 rfl (by omega) (by omega)) ?_
    refine wl_p (fun _ => o_ne rfl rfl) ?_
    refine wl_p (fun _ => o_pick_f rfl rfl) ?_
    refine wl_nil ?_
    refine rk_if rfl (fun h132 => absurd h132 (by omega)) (fun h132 => ?_)
    refine rk_skip ?_
    refine rk_seq ?_
    refine rk_seq ?_
    refine rk_region ?_
    refine wl_r (o_loadag Try.isAgg26 Try.sizeOf26 rfl f4 (by rfl)) ?_
    refine wl_call rfl (C_leafLeaf _) ?_
    rintro v134 w134 ⟨rfl, b134⟩
    have s134 := b134.size
    replace hw2 := hw2.trans (b134.mono hw2.size)
    replace hw1 := hw1.trans (b134.mono hw1.size)
    replace hw := hw.trans (b134.mono hw.size)
    replace f4 := f4.u b134
    refine wl_nil ?_
    by_cases hk0 : kids.length = 0
    · obtain ⟨g1, g2, g3, g4⟩ := i91.1 ⟨hW, hk0⟩
      obtain rfl : z96 = -1 := i96.2 (fun h => h.2 hk0)
      obtain ⟨rfl, rfl⟩ := hleaf hk0 g1 g2 g3 g4
      refine rk_if rfl (fun h134 => ?_) (fun h134 => h134.elim (by omega))
      refine rk_seq ?_
      refine rk_region ?_
      refine wl_p (fun _ => o_move rfl) ?_
      refine wl_p (fun _ => o_move rfl) ?_
      refine wl_p (fun _ => o_eq rfl rfl) ?_
      refine wl_p (fun _ => o_move rfl) ?_
      refine wl_know 138 true rfl (decide_eq_true (by omega)) ?_
      refine wl_p (fun _ => o_move rfl) ?_
      refine wl_p (fun _ => o_move rfl) ?_
      refine wl_p (fun _ => o_beq (t := 4) Try.underlying4 rfl rfl) ?_
      refine wl_p (fun _ => o_pick_t rfl rfl) ?_
      refine wl_p (fun _ => o_move rfl) ?_
      refine wl_know 143 true rfl (by simp) ?_
      refine wl_p (fun _ => o_move rfl) ?_
      refine wl_p (fun _ => o_eq rfl rfl) ?_
      refine wl_p (fun _ => o_pick_t rfl rfl) ?_
      refine wl_p (fun _ => o_assign rfl) ?_
      refine wl_nil ?_
      refine ret1 rfl rfl ?_
      exact ⟨by simp, hw⟩
    · obtain ⟨rfl, rfl⟩ := f91z hk0
      obtain rfl := hbr hk0
      refine rk_if rfl (fun h134 => absurd h134 (by omega)) (fun h134 => ?_)
      refine rk_skip ?_
      refine rk_seq ?_
      refine rk_region ?_
      refine wl_p (fun _ => o_move rfl) ?_
      refine wl_p (fun _ => o_eq rfl rfl) ?_
      refine wl_p (fun _ => o_move rfl) ?_
      refine wl_p (fun _ => o_move rfl) ?_
      refine wl_p (fun _ => o_not rfl) ?_
      refine wl_p (fun _ => o_pick_t rfl rfl) ?_
      refine wl_p (fun _ => o_move rfl) ?_
      refine wl_p (fun _ => o_move rfl) ?_
      refine wl_p (fun _ => o_move rfl) ?_
      refine wl_p (fun _ => o_eq rfl rfl) ?_
      refine wl_p (fun _ => o_pick_t rfl rfl) ?_
      refine wl_p (fun _ => o_assign rfl) ?_
      refine wl_nil ?_
      refine ret1 rfl rfl ?_
      exact ⟨by simp, hw⟩
end Go.Proofs.Ytchcpnfafgiifaa
/-
  The statement LeafNames: its walk.
-/
namespace Go.Proofs.Ytchcpnfafgiifaa
open Go.RowKit
section
variable {fn : Func} {F : Ending → World → Prop} {N : Nat} {ks : List K} {ops : Array Oper} {tg : Tags} {l : List Oper} {fr : Fr} {w : World} {ty : TypeId} {pos : String} {aft : Array Edge} {gd : Option (Nat × Bool)} {d n c lo hi : Nat} {x y : Operand} {A : Option Addr} {s : List UInt8}
--@ rule append l wl_appZl
theorem wl_appZl (m : Nat) {M : Int} (hx : fr.ev x = some (.slice A n c)) (hown : OwnH w lo hi A c s) (hn : n = s.length) (hy : fr.ev y = some (.int .i64 M)) (hM : M = (m : Int)) (hm : 0 < m) (hlen : s.length + m ≤ 4000000000) (hB : lo ≤ w.heap.size)
    (h : ∀ A' c' w', OwnH w' lo w'.heap.size A' c' (s ++ List.replicate m 0) → Grew w w' 5 (blk A) → Below lo w w' → WL Try.prog fn F N ks ops tg.tail l ((d, .slice A' (s ++ List.replicate m 0).length c') :: fr) w')
    (ht : tg.loud = true := by rfl) (hg : onG ops fr gd = true := by rfl) (hd : Nat.blt d N = true := by rfl) (hq : tg.calm = false ∨ blk A = none ∨ blk A = tg.row := by exact .inl rfl) :
    WL Try.prog fn F N ks ops tg (⟨some d, .call { callee := .builtin .append, args := #[x, y], argTypes := #[27, 3] }, ty, pos, aft, gd⟩ :: l) fr w :=
  wl_appZs Try.u8 Try.underlying3 Try.underlying9 m hx hown hn hy hM hm hlen hB h ht hg hd hq
end
set_option maxHeartbeats 1000000 in
theorem C_LeafNames (w : World) :
    CallsR Try.prog 4 [] w fun v w' => v = .bool true ∧ Below w.heap.size w w' := by
  refine callsR Try.func4 rfl rfl (by kernel_rfl) rfl ?_
  have hw := Below.refl w.heap.size w
  refine rk_seq ?_
  refine rk_region ?_
  refine wl_p (fun _ => o_assign rfl) ?_
  refine wl_nil ?_
  refine rk_seq ?_
  refine rk_region ?_
  refine wl_litB [0, 1, 1, 97, 0] Try.u8 Try.sizeOf5 Try.zeroValue5 (by rfl) rfl rfl (by rfl) (by rfl) (by rfl) ?_
  rintro A12 w12 f12 b12
  have qf12 := f12.cap
  have s12 := b12.size
  replace hw := hw.trans (b12.mono hw.size)
  refine wl_appZl (20) rfl f12 (by rfl) rfl (by omega) (by omega) (by omega) hw.size ?_
  rintro A13 c13 w13 f13 g13 b13
  have qf13 := f13.cap
  have s13 := g13.size
  replace hw := hw.trans (b13.mono (by omega))
  clear f12
  refine wl_call rfl (C_leafReadOne _ f13.to_Rd (by rfl) rfl) ?_
  rintro v14 w14 ⟨A114, ⟨c114, ⟨rfl, ⟨f14, b14⟩⟩⟩⟩
  have s14 := b14.size
  replace hw := hw.trans (b14.mono hw.size)
  replace f13 := f13.u b14
  refine wl_p (fun _ => o_move rfl) ?_
  refine wl_p (fun _ => o_ext20 rfl) ?_
  refine wl_p (fun _ => o_ext21 rfl) ?_
  refine wl_allocg [_, _, _] Try.zeroValue26 (by rfl) ?_
  rintro g1 w1 f1 b1 i1 i1_1
  have s1 := b1.size
  replace hw := hw.trans (b1.mono hw.size)
  replace f13 := f13.u b1
  replace f14 := f14.u b1
  refine wl_storega Try.sizeOf26 rfl rfl (by rfl) (oneCell_of (by rfl)) f1 (by rfl) ?_
  rintro w_1 f g e
  have s := g.size
  replace hw := hw.trans (below_of_grownBy g.g hw.size (by omega))
  replace f14 := f14.y g (by decide)
  replace f13 := f13.k g.g (ap_some (by omega))
  clear f1
  refine wl_p (fun _ => o_assign rfl) ?_
  refine wl_nil ?_
  refine rk_seq ?_
  refine rk_region ?_
  refine wl_litB [1, 1, 0, 0, 0, 0] Try.u8 Try.sizeOf5 Try.zeroValue5 (by rfl) rfl rfl (by rfl) (by rfl) (by rfl) ?_
  rintro A18 w18 f18 b18
  have qf18 := f18.cap
  have s18 := b18.size
  replace hw := hw.trans (b18.mono hw.size)
  replace f13 := f13.u b18
  replace f14 := f14.u b18
  replace f := f.u b18
  refine wl_call rfl (C_leafReadBad _ f18.to_Rd (by simp) (by rfl)) ?_
  rintro v19 w19 ⟨rfl, b19⟩
  have s19 := b19.size
  replace hw := hw.trans (b19.mono hw.size)
  replace f := f.u b19
  replace f14 := f14.u b19
  replace f13 := f13.u b19
  replace f18 := f18.u b19
  refine wl_p (fun _ => o_move rfl) ?_
  refine wl_p (fun _ => o_ext20 rfl) ?_
  refine wl_p (fun _ => o_ext21 rfl) ?_
  refine wl_allocg [_, _, _] Try.zeroValue26 (by rfl) ?_
  rintro g3 w3 f3 b3 i3 i3_1
  have s3 := b3.size
  replace hw := hw.trans (b3.mono hw.size)
  replace f18 := f18.u b3
  replace f13 := f13.u b3
  replace f14 := f14.u b3
  replace f := f.u b3
  refine wl_storega Try.sizeOf26 rfl rfl (by rfl) (by decide) f3 (by rfl) ?_
  rintro w_2 f_1 g_1 e_1
  have s_1 := g_1.size
  replace hw := hw.trans (below_of_grownBy g_1.g hw.size (by omega))
  replace f := f.k g_1.g (ap_some (by omega))
  replace f14 := f14.y g_1 (by decide)
  replace f13 := f13.k g_1.g (ap_some (by omega))
  replace f18 := f18.k g_1.g (ap_some (by omega))
  clear f3
  refine wl_p (fun _ => o_assign rfl) ?_
  refine wl_nil ?_
  refine rk_seq ?_
  refine rk_region ?_
  refine wl_litB [0, 9] Try.u8 Try.sizeOf5 Try.zeroValue5 (by rfl) rfl rfl (by rfl) (by rfl) (by rfl) ?_
  rintro A23 w23 f23 b23
  have qf23 := f23.cap
  have s23 := b23.size
  replace hw := hw.trans (b23.mono hw.size)
  replace f18 := f18.u b23
  replace f13 := f13.u b23
  replace f14 := f14.u b23
  replace f := f.u b23
  replace f_1 := f_1.u b23
  refine wl_call rfl (C_leafReadBad _ f23.to_Rd (by simp) (by rfl)) ?_
  rintro v24 w24 ⟨rfl, b24⟩
  have s24 := b24.size
  replace hw := hw.trans (b24.mono hw.size)
  replace f_1 := f_1.u b24
  replace f := f.u b24
  replace f14 := f14.u b24
  replace f13 := f13.u b24
  replace f18 := f18.u b24
  replace f23 := f23.u b24
  refine wl_p (fun _ => o_move rfl) ?_
  refine wl_p (fun _ => o_ext20 rfl) ?_
  refine wl_p (fun _ => o_ext21 rfl) ?_
  refine wl_allocg [_, _, _] Try.zeroValue26 (by rfl) ?_
  rintro g5 w5 f5 b5 i5 i5_1
  have s5 := b5.size
  replace hw := hw.trans (b5.mono hw.size)
  replace f23 := f23.u b5
  replace f18 := f18.u b5
  replace f13 := f13.u b5
  replace f14 := f14.u b5
  replace f := f.u b5
  replace f_1 := f_1.u b5
  refine wl_storega Try.sizeOf26 rfl rfl (by rfl) (by decide) f5 (by rfl) ?_
  rintro w_3 f_2 g_2 e_2
  have s_2 := g_2.size
  replace hw := hw.trans (below_of_grownBy g_2.g hw.size (by omega))
  replace f_1 := f_1.k g_2.g (ap_some (by omega))
  replace f := f.k g_2.g (ap_some (by omega))
  replace f14 := f14.y g_2 (by decide)
  replace f13 := f13.k g_2.g (ap_some (by omega))
  replace f18 := f18.k g_2.g (ap_some (by omega))
  replace f23 := f23.k g_2.g (ap_some (by omega))
  clear f5
  refine wl_p (fun _ => o_assign rfl) ?_
  refine wl_nil ?_
  refine rk_seq ?_
  refine rk_region ?_
  refine wl_litZH [1] (by rfl) rfl rfl (by rfl) (by rfl) (by rfl) ?_
  rintro A28 w28 f28 b28
  have qf28 := f28.cap
  have s28 := b28.size
  replace hw := hw.trans (b28.mono hw.size)
  replace f23 := f23.u b28
  replace f18 := f18.u b28
  replace f13 := f13.u b28
  replace f14 := f14.u b28
  replace f := f.u b28
  replace f_1 := f_1.u b28
  replace f_2 := f_2.u b28
  refine wl_p (fun _ => (o_buildg [_, _, _] Try.underlying26 Try.zeroValue26 (by rfl) (by rfl) rfl (by rfl) (by rfl) (fun _ => by kernel_rfl))) ?_
  refine wl_call rfl (C_leafBytes _ (RI.nil_) f28.to_RZ (RKy.nil_) (by rfl) (by rfl) (by rfl) (by simp [LightI]) (by omega) (by simp [LightK]) (by decide) (by omega)) ?_
  rintro v30 w30 ⟨A30, ⟨bs30, ⟨c30, ⟨z30, ⟨rfl, ⟨f30, ⟨i30, ⟨i30_1, ⟨i30_2, ⟨i30_3, b30⟩⟩⟩⟩⟩⟩⟩⟩⟩⟩
  have qf30 := f30.cap
  have s30 := b30.size
  replace hw := hw.trans (b30.mono hw.size)
  replace f_2 := f_2.u b30
  replace f_1 := f_1.u b30
  replace f := f.u b30
  replace f14 := f14.u b30
  replace f13 := f13.u b30
  replace f18 := f18.u b30
  replace f23 := f23.u b30
  replace f28 := f28.u b30
  refine wl_p (fun _ => o_move rfl) ?_
  refine wl_p (fun _ => o_ext20 rfl) ?_
  refine wl_p (fun _ => o_ext21 rfl) ?_
  refine wl_p (fun _ => o_assign rfl) ?_
  refine wl_p (fun _ => o_assign rfl) ?_
  refine wl_nil ?_
  refine rk_seq ?_
  refine rk_region ?_
  refine wl_r (o_loadag Try.isAgg26 Try.sizeOf26 rfl f (by rfl)) ?_
  refine wl_litC [98] Try.u8 Try.sizeOf5 Try.zeroValue5 (by rfl) rfl rfl (by rfl) (by rfl) (by rfl) ?_
  rintro A35 w35 f35 b35
  have s35 := b35.size
  replace hw := hw.trans (b35.mono hw.size)
  replace f28 := f28.u b35
  replace f23 := f23.u b35
  replace f18 := f18.u b35
  replace f13 := f13.u b35
  replace f14 := f14.u b35
  replace f := f.u b35
  replace f_1 := f_1.u b35
  replace f_2 := f_2.u b35
  replace f30 := f30.u b35
  refine wl_call rfl (C_leafFind _ f14.to_RI (RZ.nil_) (RKy.nil_) f35.to_Rd rfl (by rfl) (by rfl) (by rfl) (by simp [LightI]) (by simp) (by simp [LightK]) (by simp) (by simp) (by simp)) ?_
  rintro v37 w37 ⟨k37, ⟨ok37, ⟨rfl, ⟨i37, b37⟩⟩⟩⟩
  have s37 := b37.size
  replace hw := hw.trans (b37.mono hw.size)
  replace f30 := f30.u b37
  replace f_2 := f_2.u b37
  replace f_1 := f_1.u b37
  replace f := f.u b37
  replace f14 := f14.u b37
  replace f13 := f13.u b37
  replace f18 := f18.u b37
  replace f23 := f23.u b37
  replace f28 := f28.u b37
  replace f35 := f35.u b37
  refine wl_p (fun _ => o_move rfl) ?_
  refine wl_p (fun _ => o_ext20 rfl) ?_
  refine wl_p (fun _ => o_ext21 rfl) ?_
  refine wl_p (fun _ => o_assign rfl) ?_
  refine wl_p (fun _ => o_assign rfl) ?_
  refine wl_nil ?_
  refine rk_seq ?_
  refine rk_region ?_
  obtain rfl : z30 = 2 := by
    rcases i30 with h | h
    · exact absurd (i30_1.1 h) (by decide)
    · exact h
  have hk : k37 = 1 ∧ ok37 = false := by
    obtain ⟨g1, g2, g3, g4⟩ := i37.1 ⟨by decide, rfl⟩
    have g5 : k37 = 1 := by
      rcases k37 with _ | _ | k
      · exact absurd (g3 (by decide)).1 (by decide)
      · rfl
      · simp at g1
    exact ⟨g5, g4 g5⟩
  obtain ⟨rfl, rfl⟩ := hk
  dsimp only [List.append]
  refine wl_call rfl (C_lives11 _) ?_
  rintro v40 w40 ⟨rfl, b40⟩
  have s40 := b40.size
  replace hw := hw.trans (b40.mono hw.size)
  replace f35 := f35.u b40
  replace f28 := f28.u b40
  replace f23 := f23.u b40
  replace f18 := f18.u b40
  replace f13 := f13.u b40
  replace f14 := f14.u b40
  replace f := f.u b40
  replace f_1 := f_1.u b40
  replace f_2 := f_2.u b40
  replace f30 := f30.u b40
  refine wl_p (fun _ => o_move rfl) ?_
  refine wl_p (fun _ => o_move rfl) ?_
  refine wl_p (fun _ => o_eq rfl rfl) ?_
  refine wl_p (fun _ => o_pick_t rfl rfl) ?_
  refine wl_p (fun _ => o_move rfl) ?_
  refine wl_p (fun _ => o_faddr (s := 26) (i := 0) (off := 0) Try.underlying26 rfl Try.sizeOf22 rfl rfl rfl) ?_
  refine wl_r (o_loadbg Try.isAgg22 rfl f (by rfl)) ?_
  refine wl_p (fun _ => o_len (t := 22) Try.underlying22 rfl) ?_
  refine wl_p (fun _ => o_eq rfl rfl) ?_
  refine wl_p (fun _ => o_pick_t rfl rfl) ?_
  refine wl_p (fun _ => o_move rfl) ?_
  refine wl_r (o_loadag Try.isAgg26 Try.sizeOf26 rfl f (by rfl)) ?_
  refine wl_call rfl (C_leafLeaf _) ?_
  rintro v53 w53 ⟨rfl, b53⟩
  have s53 := b53.size
  replace hw := hw.trans (b53.mono hw.size)
  replace f30 := f30.u b53
  replace f_2 := f_2.u b53
  replace f_1 := f_1.u b53
  replace f := f.u b53
  replace f14 := f14.u b53
  replace f13 := f13.u b53
  replace f18 := f18.u b53
  replace f23 := f23.u b53
  replace f28 := f28.u b53
  replace f35 := f35.u b53
  refine wl_p (fun _ => o_pick_t rfl rfl) ?_
  refine wl_p (fun _ => o_move rfl) ?_
  refine wl_p (fun _ => o_move rfl) ?_
  refine wl_p (fun _ => o_eq rfl rfl) ?_
  refine wl_p (fun _ => o_pick_t rfl rfl) ?_
  refine wl_p (fun _ => o_move rfl) ?_
  refine wl_p (fun _ => o_move rfl) ?_
  refine wl_p (fun _ => o_eq rfl rfl) ?_
  refine wl_p (fun _ => o_pick_t rfl rfl) ?_
  refine wl_p (fun _ => o_move rfl) ?_
  refine wl_p (fun _ => o_move rfl) ?_
  refine wl_p (fun _ => o_eq rfl rfl) ?_
  refine wl_p (fun _ => o_pick_t rfl rfl) ?_
  refine wl_p (fun _ => o_move rfl) ?_
  refine wl_p (fun _ => o_move rfl) ?_
  refine wl_p (fun _ => o_eq rfl rfl) ?_
  refine wl_p (fun _ => o_pick_t rfl rfl) ?_
  refine wl_p (fun _ => o_move rfl) ?_
  refine wl_p (fun _ => o_move rfl) ?_
  refine wl_p (fun _ => o_not rfl) ?_
  refine wl_p (fun _ => o_pick_t rfl rfl) ?_
  refine wl_p (fun _ => o_move rfl) ?_
  refine wl_r (o_loadag Try.isAgg26 Try.sizeOf26 rfl f (by rfl)) ?_
  refine wl_litC [97] Try.u8 Try.sizeOf5 Try.zeroValue5 (by rfl) rfl rfl (by rfl) (by rfl) (by rfl) ?_
  rintro A77 w77 f77 b77
  have s77 := b77.size
  replace hw := hw.trans (b77.mono hw.size)
  replace f35 := f35.u b77
  replace f28 := f28.u b77
  replace f23 := f23.u b77
  replace f18 := f18.u b77
  replace f13 := f13.u b77
  replace f14 := f14.u b77
  replace f := f.u b77
  replace f_1 := f_1.u b77
  replace f_2 := f_2.u b77
  replace f30 := f30.u b77
  refine wl_call rfl (C_leafKid _ f14.to_RI (RZ.nil_) (RKy.nil_) f77.to_Rd rfl (by rfl) (by rfl) (by rfl) (by simp [LightI]) (by simp) (by simp [LightK]) (by simp) (by simp) (by simp)) ?_
  rintro v79 w79 ⟨z79, ⟨rfl, ⟨i79, b79⟩⟩⟩
  have s79 := b79.size
  replace hw := hw.trans (b79.mono hw.size)
  replace f30 := f30.u b79
  replace f_2 := f_2.u b79
  replace f_1 := f_1.u b79
  replace f := f.u b79
  replace f14 := f14.u b79
  replace f13 := f13.u b79
  replace f18 := f18.u b79
  replace f23 := f23.u b79
  replace f28 := f28.u b79
  replace f35 := f35.u b79
  replace f77 := f77.u b79
  refine wl_p (fun _ => o_eq rfl rfl) ?_
  refine wl_p (fun _ => o_pick_t rfl rfl) ?_
  refine wl_p (fun _ => o_move rfl) ?_
  obtain rfl : z79 = -1 := i79.2 (fun h => h.2 rfl)
  refine wl_litC [97] Try.u8 Try.sizeOf5 Try.zeroValue5 (by rfl) rfl rfl (by rfl) (by rfl) (by rfl) ?_
  rintro A83 w83 f83 b83
  have s83 := b83.size
  replace hw := hw.trans (b83.mono hw.size)
  replace f77 := f77.u b83
  replace f35 := f35.u b83
  replace f28 := f28.u b83
  replace f23 := f23.u b83
  replace f18 := f18.u b83
  replace f13 := f13.u b83
  replace f14 := f14.u b83
  replace f := f.u b83
  replace f_1 := f_1.u b83
  replace f_2 := f_2.u b83
  replace f30 := f30.u b83
  refine wl_litC [97, 98] Try.u8 Try.sizeOf5 Try.zeroValue5 (by rfl) rfl rfl (by rfl) (by rfl) (by rfl) ?_
  rintro A85 w85 f85 b85
  have s85 := b85.size
  replace hw := hw.trans (b85.mono hw.size)
  replace f30 := f30.u b85
  replace f_2 := f_2.u b85
  replace f_1 := f_1.u b85
  replace f := f.u b85
  replace f14 := f14.u b85
  replace f13 := f13.u b85
  replace f18 := f18.u b85
  replace f23 := f23.u b85
  replace f28 := f28.u b85
  replace f35 := f35.u b85
  replace f77 := f77.u b85
  replace f83 := f83.u b85
  refine wl_call rfl (C_leafCompare _ f83.to_Rd f85.to_Rd (by rfl) (by rfl) (by simp) (by simp)) ?_
  rintro v87 w87 ⟨rfl, b87⟩
  have s87 := b87.size
  replace hw := hw.trans (b87.mono hw.size)
  replace f83 := f83.u b87
  replace f77 := f77.u b87
  replace f35 := f35.u b87
  replace f28 := f28.u b87
  replace f23 := f23.u b87
  replace f18 := f18.u b87
  replace f13 := f13.u b87
  replace f14 := f14.u b87
  replace f := f.u b87
  replace f_1 := f_1.u b87
  replace f_2 := f_2.u b87
  replace f30 := f30.u b87
  replace f85 := f85.u b87
  refine wl_p (fun _ => o_eq rfl rfl) ?_
  refine wl_p (fun _ => o_pick_t rfl rfl) ?_
  refine wl_p (fun _ => o_move rfl) ?_
  refine wl_litC [97] Try.u8 Try.sizeOf5 Try.zeroValue5 (by rfl) rfl rfl (by rfl) (by rfl) (by rfl) ?_
  rintro A91 w91 f91 b91
  have s91 := b91.size
  replace hw := hw.trans (b91.mono hw.size)
  replace f85 := f85.u b91
  replace f30 := f30.u b91
  replace f_2 := f_2.u b91
  replace f_1 := f_1.u b91
  replace f := f.u b91
  replace f14 := f14.u b91
  replace f13 := f13.u b91
  replace f18 := f18.u b91
  replace f23 := f23.u b91
  replace f28 := f28.u b91
  replace f35 := f35.u b91
  replace f77 := f77.u b91
  replace f83 := f83.u b91
  refine wl_call rfl (C_leafKey _ (by omega)) ?_
  rintro v93 w93 ⟨rfl, rfl⟩
  refine wl_p (fun _ => o_pick_t rfl rfl) ?_
  refine wl_p (fun _ => o_move rfl) ?_
  refine wl_call rfl (C_leafKey _ (by omega)) ?_
  rintro v96 w96 ⟨rfl, rfl⟩
  refine wl_p (fun _ => o_not rfl) ?_
  refine wl_p (fun _ => o_pick_t rfl rfl) ?_
  refine wl_p (fun _ => o_move rfl) ?_
  refine wl_call rfl (C_leafValue _ (by omega)) ?_
  rintro v100 w100 ⟨rfl, rfl⟩
  refine wl_p (fun _ => o_pick_t rfl rfl) ?_
  refine wl_p (fun _ => o_move rfl) ?_
  refine wl_mkBz (33) rfl rfl (by omega) (by rfl) (by omega) (by rfl) ?_
  rintro A103 w103 f103 b103
  have qf103 := f103.cap
  have s103 := b103.size
  replace hw := hw.trans (b103.mono hw.size)
  replace f83 := f83.u b103
  replace f77 := f77.u b103
  replace f35 := f35.u b103
  replace f28 := f28.u b103
  replace f23 := f23.u b103
  replace f18 := f18.u b103
  replace f13 := f13.u b103
  replace f14 := f14.u b103
  replace f := f.u b103
  replace f_1 := f_1.u b103
  replace f_2 := f_2.u b103
  replace f30 := f30.u b103
  replace f85 := f85.u b103
  replace f91 := f91.u b103
  refine wl_call rfl (C_leafValue _ (by omega)) ?_
  rintro v104 w104 ⟨rfl, rfl⟩
  refine wl_p (fun _ => o_not rfl) ?_
  refine wl_p (fun _ => o_pick_t rfl rfl) ?_
  refine wl_p (fun _ => o_move rfl) ?_
  refine wl_r (o_loadag Try.isAgg26 Try.sizeOf26 rfl f (by rfl)) ?_
  refine wl_r (o_loadag Try.isAgg26 Try.sizeOf26 rfl f (by rfl)) ?_
  refine wl_call rfl (C_leafSame _ f14.to_RI (RKy.nil_) f14.to_RI (RKy.nil_) rfl (by rfl) rfl (by rfl) rfl rfl (by simp) (by simp) (by simp) (by simp)) ?_
  rintro v110 w110 ⟨rfl, b110⟩
  have s110 := b110.size
  replace hw := hw.trans (b110.mono hw.size)
  replace f91 := f91.u b110
  replace f85 := f85.u b110
  replace f30 := f30.u b110
  replace f_2 := f_2.u b110
  replace f_1 := f_1.u b110
  replace f := f.u b110
  replace f14 := f14.u b110
  replace f13 := f13.u b110
  replace f18 := f18.u b110
  replace f23 := f23.u b110
  replace f28 := f28.u b110
  replace f35 := f35.u b110
  replace f77 := f77.u b110
  replace f83 := f83.u b110
  replace f103 := f103.u b110
  refine wl_p (fun _ => o_pick_t rfl rfl) ?_
  refine wl_p (fun _ => o_move rfl) ?_
  refine wl_p (fun _ => o_pick_t rfl rfl) ?_
  refine wl_p (fun _ => o_move rfl) ?_
  refine wl_p (fun _ => o_pick_t rfl rfl) ?_
  refine wl_p (fun _ => o_assign rfl) ?_
  refine wl_nil ?_
  refine ret1 rfl rfl ?_
  exact ⟨rfl, hw⟩
end Go.Proofs.Ytchcpnfafgiifaa
