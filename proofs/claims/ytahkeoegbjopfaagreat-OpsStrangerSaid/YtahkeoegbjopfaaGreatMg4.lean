/-
  Parts of a row of the call's own put together in place, and cells set to zero; results in cells and slots. No function of the program is named here.
-/
import Derived.Test.YtahkeoegbjopfaaGreatMg3
namespace Go.Proofs.YtahkeoegbjopfaaGreat
set_option maxRecDepth 100000
open Go.RowKit
section
variable {P : Program} {w : World} {lo hi sz n c bytes : Nat} {t ty e : TypeId} {z : Value} {A : Option Addr} {xs : List Value}
theorem zeroCells_mem {zS : Array Value} (h1 : zS.all (fun v => v.oneCell') = true) (h0 : 0 < zS.size) (m : Nat) : ∀ v ∈ (Builtin.zeroCells zS m).toList, v.oneCell' = true := by
 intro v hv
 simp only [Builtin.zeroCells, Array.toList_map, List.mem_map] at hv
 obtain ⟨i, _, rfl⟩ := hv
 have hlt : i % zS.size < zS.size := Nat.mod_lt _ h0
 rw [getElem!_pos zS _ hlt]
 exact Array.all_eq_true.1 h1 _ hlt
theorem run_clearR (T : RowT P t e z sz bytes) (hz : ∀ w, (zeroValue e).run P w = .ok z w) (h1 : z.cells.all (fun v => v.oneCell') = true) (hown : RowH w lo hi e sz A n c xs) {k m c' : Nat} (hk : n ≤ k) (hm : k + m ≤ c) :
  ∃ w', (Builtin.clear_ #[t] ty #[.slice (cutA A c sz k) m c']).run P w = .ok (.tuple #[]) w' ∧ RowH w' lo hi e sz A n c xs ∧ Grew w w' e (blk A) := by
 have hT := hown.ty
 rcases Nat.eq_zero_or_pos m with h0 | h0
 ·subst h0
  refine ⟨w, ?_, hown, ⟨World.grownBy.refl w _, hT⟩⟩
  cases cutA A c sz k <;> simp [Builtin.clear_, run_underlying T.ht]
 ·have ho := hown.o
  rcases ho.2 with ⟨hv, hn0⟩ | ⟨g, cap, cur, hv, hbg, hg, hnc, hcm, hcs, htake⟩
  ·injection hv with _ _ e3
   omega
  ·injection hv with e1 _ e3
   subst e1; subst e3
   have hB : Blk w g e cur.toList := by unfold Blk; rw [Array.toArray_toList]; exact hg
   have hzl : (Builtin.zeroCells z.cells m).toList.length = m * sz := by simp [Builtin.zeroCells, T.hz]
   have hcl : cur.toList.length = c * sz := by rw [Array.length_toList, hcs]
   have hroom : (k + m) * sz ≤ c * sz := Nat.mul_le_mul_right _ hm
   rw [Nat.add_mul] at hroom
   obtain ⟨w', hr, hB', hgr, _⟩ := run_storeCells_blk (P := P) (o := k * sz) (Builtin.zeroCells z.cells m).toList 0 cur.toList w hB (zeroCells_mem h1 (by rw [T.hz]; exact T.h0) m) (by rw [hzl, hcl]; omega)
   have hcut : cutA (some ⟨g, 0, none⟩) c sz k = some ⟨g, k * sz, none⟩ := by
    unfold cutA; rw [if_neg (by omega)]; simp [add_plain]
   obtain ⟨m', rfl⟩ : ∃ m', m = m' + 1 := ⟨m - 1, by omega⟩
   have hnk : n * sz ≤ k * sz := Nat.mul_le_mul_right _ hk
   refine ⟨w', ?_, ⟨⟨ho.1, .inr ⟨g, c, _, rfl, hbg, hB', hnc, hcm, ?_, ?_⟩⟩, hown.hi⟩, ⟨hgr, hT⟩⟩
   ·rw [hcut]
    simp [Builtin.clear_, run_underlying T.ht, hz, hr]
   ·rw [List.size_toArray, spl_length (by rw [hzl, hcl]; omega), hcl]
   ·rw [← htake, Nat.add_zero]
    simp only [spl]
    rw [List.append_assoc, List.take_append_of_le_length (by rw [List.length_take, hcl]; omega), List.take_take, Nat.min_eq_left hnk]
theorem run_appFit (T : RowT P t e z sz bytes) (hown : RowH w lo hi e sz A n c xs) {X : Option Addr} {m q : Nat} {ms : List Value} (hr : Reads w sz X m ms) (h1 : ∀ u ∈ ms, u.oneCell' = true) (hroom : n + m ≤ c) :
  ∃ w', (Builtin.append_ #[t, t] ty #[.slice A n c, .slice X m q]).run P w = .ok (.slice A (n + m) c) w' ∧ RowH w' lo hi e sz A (n + m) c (xs ++ ms) ∧ Grew w w' e (blk A) := by
 have hT := hown.ty
 obtain ⟨i, hi', hz, hs, hb⟩ := info_parts T.hi
 have ho := hown.o
 by_cases hm : ms = []
 ·subst hm
  have hm0 : m = 0 := by
   have := hr.1
   rw [List.length_nil] at this
   rcases Nat.mul_eq_zero.1 this.symm with h2 | h2
   ·exact h2
   ·have := T.h0; omega
  subst hm0
  refine ⟨w, ?_, by simpa using hown, ⟨World.grownBy.refl w _, hT⟩⟩
  have hst : ∀ a : Addr, (storeCells a [] 0).run P w = .ok () w := fun a => by simp [storeCells]
  have hf : (Builtin.firstCells i.size 0 (.slice X 0 q)).run P w = .ok #[] w := by cases X <;> simp [Builtin.firstCells, loadCells, loadCellsFrom]
  have hnc : n ≤ c := hown.cap
  cases A <;> simp [Builtin.append_, run_underlying T.ht, sizeOf, typeInfo, hi', Builtin.lenOf, hf, storeCells, hnc]
 ·obtain ⟨ad, rfl, hcell⟩ := hr.add hm
  have hm0 : 0 < m := by
   rcases Nat.eq_zero_or_pos m with h2 | h2
   ·subst h2; exact absurd (List.eq_nil_of_length_eq_zero (by rw [hr.1]; simp)) hm
   ·exact h2
  rcases ho.2 with ⟨hv, hn0⟩ | ⟨g, cap, cur, hv, hbg, hg, hnc, hcm, hcs, htake⟩
  ·injection hv with _ _ e3
   omega
  ·injection hv with e1 _ e3
   subst e1; subst e3
   obtain ⟨w', hrun, r1, r2⟩ := run_append_fits (P := P) (w := w) lo t ty e i sz T.ht hi' hs g n c xs ho ad m q ms hr.1 hcell h1 hroom
   exact ⟨w', hrun, ⟨r1, hown.hi⟩, ⟨r2, hT⟩⟩
end
section
variable {α : Type} {X : GoT α} {e : TypeId} {w : World} {lo hi c : Nat} {A : Option Addr} {L : List α}
theorem part_take {xs : List Value} {m i k : Nat} (hi : i < k) : part (xs.take (k * m)) m i = part xs m i := by
 unfold part
 have h1 : (i + 1) * m ≤ k * m := Nat.mul_le_mul_right _ hi
 rw [Nat.add_mul, Nat.one_mul] at h1
 rw [List.drop_take, List.take_take, Nat.min_eq_left (by omega)]
theorem part_drop {xs : List Value} {m i k : Nat} : part (xs.drop (k * m)) m i = part xs m (k + i) := by
 unfold part
 rw [List.drop_drop, Nat.add_mul]
theorem OwnS.take (h : OwnS X e w lo hi A c L) (k : Nat) (hk : k ≤ L.length) : OwnS X e w lo hi A c (L.take k) := by
 obtain ⟨xs, h1, h2⟩ := h
 have hl : (L.take k).length = k := by rw [List.length_take]; omega
 have hxl : xs.length = L.length * X.sz := h1.rd.1
 have hkx : k * X.sz ≤ L.length * X.sz := Nat.mul_le_mul_right _ hk
 refine ⟨xs.take (k * X.sz), ⟨?_, h1.hi⟩, fun i hi => ?_⟩
 ·rw [hl]
  refine ⟨by rw [List.length_take, hxl, Nat.min_eq_left hkx], ?_⟩
  rcases h1.o.2 with ⟨hv, hn0⟩ | ⟨g, cap, cur, hv, h3, h4, h5, h6, h7, h8⟩
  ·have h0 : k = 0 := by omega
   subst h0
   injection hv with e1 _ e3
   subst e1; subst e3
   exact .inl ⟨rfl, rfl⟩
  ·injection hv with e1 _ e3
   subst e1; subst e3
   refine .inr ⟨g, c, cur, rfl, h3, h4, by omega, h6, h7, ?_⟩
   rw [← h8, List.take_take, Nat.min_eq_left hkx]
 ·rw [hl] at hi
  rw [part_take hi, List.getElem_take]
  exact h2 i (by omega)
theorem OwnS.drop (h : OwnS X e w lo hi A c L) (k : Nat) (hk : k ≤ L.length) : RSlT X e w (cutA A c X.sz k) (L.drop k) := by
 have hc := h.cap
 obtain ⟨xs, h1, h2⟩ := h
 have hT := h1.ty
 refine ⟨xs.drop (k * X.sz), h1.rd.cutn hk hc (by rw [List.length_drop]), fun b hb => hT b ?_, fun i hi => ?_⟩
 ·unfold cutA at hb
  split at hb
  ·exact hb
  ·rw [← hb]
   cases A with
   | none => rfl
   | some a => simp [blk, block_of_add]
 ·rw [part_drop, List.getElem_drop]
  rw [List.length_drop] at hi
  exact h2 _ (by omega)
end
section
variable {α : Type} {X : GoT α} {P : Program} {fn : Func} {F : Ending → World → Prop} {N : Nat} {ks : List K} {ops : Array Oper} {tg : Tags} {l : List Oper} {fr : Fr} {w : World} {ty t e : TypeId} {z : Value} {pos : String} {aft : Array Edge} {gd : Option (Nat × Bool)} {d n bytes c j q lo hi k m c' : Nat} {x y : Operand} {A B : Option Addr} {L M : List α}
theorem wl_appFit (T : RowT P t e z X.sz bytes) (hx : fr.ev x = some (.slice A n c)) (hown : OwnS X e w lo hi A c L) (hn : n = L.length) (hy : fr.ev y = some (.slice B j q)) (hr : RSlT X e w B M) (hj : j = M.length) (hne : e ∉ X.tys) (h1 : ∀ w cs a, X.T w cs a → ∀ u ∈ cs, u.oneCell' = true) (hroom : L.length + M.length ≤ c)
  (h : ∀ w', OwnS X e w' lo hi A c (L ++ M) → Grew w w' e (blk A) → WL P fn F N ks ops tg.tail l ((d, .slice A (L ++ M).length c) :: fr) w')
  (ht : tg.loud = true := by rfl) (hg : onG ops fr gd = true := by rfl) (hd : Nat.blt d N = true := by rfl) (hq : tg.calm = false ∨ blk A = none ∨ blk A = tg.row := by exact .inl rfl) :
  WL P fn F N ks ops tg (⟨some d, .call { callee := .builtin .append, args := #[x, y], argTypes := #[t, t] }, ty, pos, aft, gd⟩ :: l) fr w := by
 subst hn; subst hj
 obtain ⟨xs, g1, g2⟩ := hown
 obtain ⟨ms, r1, r2, r3⟩ := hr
 have hxl : xs.length = L.length * X.sz := g1.rd.1
 have hml : ms.length = M.length * X.sz := r1.1
 obtain ⟨w', hrun, k1, k2⟩ := run_appFit (ty := ty) (q := q) T g1 r1 (fun u hu => by
  obtain ⟨i, hi, rfl⟩ := List.getElem_of_mem hu
  have h0 := T.h0
  have hq : i / X.sz < M.length := (Nat.div_lt_iff_lt_mul h0).2 (by omega)
  refine h1 _ _ _ (r3 _ hq) _ (List.mem_of_getElem? (i := i % X.sz) ?_)
  rw [part_get (Nat.mod_lt _ h0), Nat.div_add_mod' i X.sz]
  exact List.getElem?_eq_getElem hi) hroom
 have e2 : (L ++ M).length = L.length + M.length := List.length_append
 rw [← e2] at k1 hrun
 refine wl_v (o_builtin (xs := [x, y]) (vs := [.slice A L.length c, .slice B M.length q]) (by simp [Fr.evs, hx, hy]) (by simp [builtin, hrun]) (by simp)) (h w' ⟨_, k1, fun i hi => ?_⟩ k2) ht hg hd
  (hq.imp id fun e => e.elim (fun e => grown_wide (e ▸ k2.g) _) (fun e => e ▸ k2.g))
 rcases Nat.lt_or_ge i L.length with hl | hl
 ·rw [part_append_lt hxl hl, List.getElem_append_left hl]
  exact X.ty (g2 i hl) k2 hne
 ·rw [List.getElem_append_right hl]
  have hi2 : i - L.length < M.length := by rw [e2] at hi; omega
  have := X.ty (r3 _ hi2) k2 hne
  have e3 : part (xs ++ ms) X.sz i = part ms X.sz (i - L.length) := by
   unfold part
   rw [show i * X.sz = xs.length + (i - L.length) * X.sz by rw [hxl, ← Nat.add_mul]; congr 1; omega, ← List.drop_drop, List.drop_left]
  rw [e3]; exact this
theorem wl_clearS (T : RowT P t e z X.sz bytes) (hz : ∀ w, (zeroValue e).run P w = .ok z w) (h1 : z.cells.all (fun v => v.oneCell') = true) (hx : fr.ev x = some (.slice (cutA A c X.sz k) m c')) (hown : OwnS X e w lo hi A c L) (hk : L.length ≤ k) (hm : k + m ≤ c) (hne : e ∉ X.tys)
  (h : ∀ w', OwnS X e w' lo hi A c L → Grew w w' e (blk A) → WL P fn F N ks ops tg.tail l fr w')
  (ht : tg.loud = true := by rfl) (hg : onG ops fr gd = true := by rfl) (hq : tg.calm = false ∨ blk A = none ∨ blk A = tg.row := by exact .inl rfl) :
  WL P fn F N ks ops tg (⟨none, .call { callee := .builtin .clear, args := #[x], argTypes := #[t] }, ty, pos, aft, gd⟩ :: l) fr w := by
 obtain ⟨xs, g1, g2⟩ := hown
 obtain ⟨w', hrun, k1, k2⟩ := run_clearR (ty := ty) (c' := c') T hz h1 g1 hk hm
 exact wl_v0 (o_builtin (v := .tuple #[]) (xs := [x]) (vs := [.slice (cutA A c X.sz k) m c']) (by simp [Fr.evs, hx]) (by simp [builtin, hrun]) (by simp)) (h w' ⟨_, k1, fun i hi => X.ty (g2 i hi) k2 hne⟩ k2) ht hg
  (hq.imp id fun e => e.elim (fun e => grown_wide (e ▸ k2.g) _) (fun e => e ▸ k2.g))
theorem o_slice3S {N : Nat} {len cap sz : Nat} {kl kh km : IntKind} {L H M : Int} {y z u : Operand} (lo hi mx : Nat) (hu : P.underlying t = some (.slice e)) (hs : ∀ w, (sizeOf e).run P w = .ok sz w) (hx : fr.ev x = some (.slice A len cap)) (hy : fr.ev y = some (.int kl L)) (hz : fr.ev z = some (.int kh H)) (hq : fr.ev u = some (.int km M))
  (hl : L = (lo : Int)) (hh : H = (hi : Int)) (hm : M = (mx : Int)) (h1 : lo ≤ hi) (h2 : hi ≤ mx) (h3 : mx ≤ cap) : OpV P N fr w (.slice t x (some y) (some z) (some u)) ty (.slice (cutA A mx sz lo) (hi - lo) (mx - lo)) w := fun a ha op hop _ => by
 subst hl; subst hh; subst hm
 simp [execOp, hop, ha.ev hx, ha.ev hy, ha.ev hz, ha.ev hq, Instr.sliceAt, Instr.slice, Instr.sliceBounds, Instr.sliceBound, run_underlying hu, asIntOf, hs, h1, h2, h3, cutA]
end
inductive Res (P : Program) (fr : Fr) (w : World) : List ResultVar → List Value → Prop where
 | nil : Res P fr w [] []
 | tmp {q : Nat} {v : Value} {rs : List ResultVar} {vs : List Value} (h : fr.get q = some v) (r : Res P fr w rs vs) : Res P fr w (.tmp q :: rs) (v :: vs)
 | cell {p n g : Nat} {t t' : TypeId} {cs : List Value} {rs : List ResultVar} {vs : List Value} (hp : fr.get p = some (.pointer (some ⟨g, 0, none⟩))) (ha' : ∀ w, (isAgg t).run P w = .ok true w) (hs : ∀ w, (sizeOf t).run P w = .ok n w) (hB : Blk w g t' cs) (hn : cs.length = n) (r : Res P fr w rs vs) : Res P fr w (.cell p t :: rs) (.agg cs.toArray :: vs)
 | flat {p g : Nat} {t t' : TypeId} {v : Value} {rs : List ResultVar} {vs : List Value} (hp : fr.get p = some (.pointer (some ⟨g, 0, none⟩))) (ha' : ∀ w, (isAgg t).run P w = .ok false w) (hB : Blk w g t' [v]) (r : Res P fr w rs vs) : Res P fr w (.cell p t :: rs) (v :: vs)
def resOf (a : Act) (x : ResultVar) : Sem Value := match x with
 | .tmp t => pure (a.tmps.getD t undef)
 | .cell b t => do loadVar t (← asAddr (a.tmps.getD b undef))
theorem resOf_cell {P : Program} {a : Act} {w : World} {p g : Nat} {t : TypeId} {v : Value} (hp : a.tmps.getD p undef = .pointer (some ⟨g, 0, none⟩)) (hl : (loadVar t ⟨g, 0, none⟩).run P w = .ok v w) : (resOf a (.cell p t)).run P w = .ok v w := by
 simp only [resOf, hp, asAddr, Sem.run_bind, Sem.run_pure, Result.andThen_ok, hl]
theorem Res.run {P : Program} {N : Nat} {a : Act} {fr : Fr} {w : World} (ha : Rep N a fr) {rs : List ResultVar} {vs : List Value} (h : Res P fr w rs vs) : (rs.mapM (resOf a)).run P w = .ok vs w := by
 have cons : ∀ {x : ResultVar} {v : Value} {rs : List ResultVar} {vs : List Value}, (resOf a x).run P w = .ok v w → (rs.mapM (resOf a)).run P w = .ok vs w → ((x :: rs).mapM (resOf a)).run P w = .ok (v :: vs) w := by
  intro x v rs vs h1 h2
  rw [List.mapM_cons]
  simp only [Sem.run_bind, Sem.run_pure, Result.andThen_ok, h1, h2]
 induction h with
 | nil => simp
 | @tmp q v rs vs h r ih =>
  have hv : a.tmps.getD q undef = v := ha.ev (x := .tmp q) h
  exact cons (by simp only [resOf, hv, Sem.run_pure]) ih
 | @cell p n g t t' cs rs vs hp ha' hs hB hn r ih =>
  have hp' : a.tmps.getD p undef = .pointer (some ⟨g, 0, none⟩) := ha.ev (x := .tmp p) hp
  subst hn
  have hl : (loadCells ⟨g, 0, none⟩ cs.length).run P w = .ok cs.toArray w := run_loadCells_list (P := P) w ⟨g, 0, none⟩ cs (fun j u hu => by rw [add_plain, hB.cell, Nat.zero_add]; exact hu)
  exact cons (resOf_cell hp' (by simp [loadVar, ha', hs, hl])) ih
 | @flat p g t t' v rs vs hp ha' hB r ih =>
  have hp' : a.tmps.getD p undef = .pointer (some ⟨g, 0, none⟩) := ha.ev (x := .tmp p) hp
  have hc : w.cell? ⟨g, 0, none⟩ = some v := by rw [hB.cell]; rfl
  exact cons (resOf_cell hp' (by simp [loadVar, ha', hc])) ih
theorem ret_any {P : Program} {fn : Func} {N : Nat} {ks : List K} {fr : Fr} {w : World} {rs : List ResultVar} {vs : List Value} {R : Value → World → Prop} (h : fn.results = rs.toArray) (hr : Res P fr w rs vs) (hn : vs.length ≠ 1) (hR : R (.tuple vs.toArray) w) : RK P fn (fun e w' => ∃ v, e = .returned v ∧ R v w') N (.code .ret :: ks) fr w :=
 rk_ret (F := fun e w' => ∃ v, e = .returned v ∧ R v w') (fun a ha => ⟨.tuple vs.toArray, by
  have hrun := hr.run ha
  have h2 : (rs.toArray.mapM (resOf a)).run P w = .ok vs.toArray w := by
   rw [List.mapM_toArray, Sem.run_map, hrun]; rfl
  have e : results fn a.tmps = (do
    let vs ← rs.toArray.mapM (resOf a)
    pure (if h : vs.size = 1 then vs[0] else .tuple vs)) := by rw [← h]; rfl
  rw [e]
  simp only [Sem.run_bind, h2, Result.andThen_ok, Sem.run_pure]
  simp [hn], ⟨_, rfl, hR⟩⟩)
end Go.Proofs.YtahkeoegbjopfaaGreat
namespace Go.Proofs.YtahkeoegbjopfaaGreat
set_option maxRecDepth 100000
open Go.RowKit
theorem OwnH.ge_ {w : World} {lo hi c : Nat} {A : Option Addr} {l : List UInt8} (h : OwnH w lo hi A c l) {B : Nat} (hB : B ≤ lo) : ∀ k, blk A = some k → B ≤ k := fun k hk => Nat.le_trans hB (RowH.lt h k hk).1
section
variable {P : Program} {fn : Func} {F : Ending → World → Prop} {N : Nat} {ks : List K} {ops : Array Oper} {tg : Tags} {l : List Oper} {fr : Fr} {w : World} {ty t : TypeId} {pos : String} {aft : Array Edge} {gd : Option (Nat × Bool)} {d n j q c lo hi : Nat} {x y : Operand} {A X : Option Addr}
theorem wl_vR {op : Op} {v : Value} {w' : World} (h : OpV P N fr w op ty v w') (hk : WL P fn F N ks ops tg.tail l ((d, v) :: fr) w') (ht : tg.loud = true := by rfl) (hg : onG ops fr gd = true := by rfl) (hd : Nat.blt d N = true := by rfl) (hq : tg.calm = false ∨ tg.rw.ok w w' := by exact .inl rfl) :
  WL P fn F N ks ops tg (⟨some d, op, ty, pos, aft, gd⟩ :: l) fr w :=
 fun a ha => left_loud ht fun K hK => by
  rw [if_pos (wanted_on (o := ⟨some d, op, ty, pos, aft, gd⟩) ha hg)]
  unfold Oper.wp
  rw [h a ha _ rfl rfl]
  exact hK _ _ hq (hk _ (ha.put hd v))
theorem wl_appBm (T : U8 P t) {s m : List UInt8} (hx : fr.ev x = some (.slice A n c)) (hown : OwnH w lo hi A c s) (hn : n = s.length) (hy : fr.ev y = some (.slice X j q)) (hr : Rd w X m) (hj : j = m.length) (hlen : s.length + m.length ≤ 4000000000) (hB : lo ≤ w.heap.size)
  (h : ∀ A' c' w', OwnH w' lo w'.heap.size A' c' (s ++ m) → Grew w w' 5 (blk A) → Below lo w w' → WL P fn F N ks ops tg.tail l ((d, .slice A' (s ++ m).length c') :: fr) w')
  (ht : tg.loud = true := by rfl) (hg : onG ops fr gd = true := by rfl) (hd : Nat.blt d N = true := by rfl) (hq : tg.calm = false ∨ tg.rw.may (blk A) := by exact .inl rfl) :
  WL P fn F N ks ops tg (⟨some d, .call { callee := .builtin .append, args := #[x, y], argTypes := #[t, t] }, ty, pos, aft, gd⟩ :: l) fr w := by
 subst hn; subst hj
 obtain ⟨A', c', w', hrun, h1, h2, h3, h4⟩ := run_app (P := P) w T (ty := ty) hown.o (k := q) hr (by omega) hB
 exact wl_vR (o_builtin (xs := [x, y]) (vs := [.slice A s.length c, .slice X m.length q]) (by simp [Fr.evs, hx, hy]) (by simp [builtin, hrun]) (by simp)) (h A' c' w' h1.h_ ⟨h2, RowH.ty hown⟩ h4) ht hg hd (hq.imp id fun e => Rw.of_may h2 e)
end
section
variable {P : Program} {fn : Func} {F : Ending → World → Prop} {N : Nat} {ks : List K} {ops : List Oper} {fr : Fr} {w : World} {row : Rw} {L C : Nat}
end
end Go.Proofs.YtahkeoegbjopfaaGreat
namespace Go.Proofs.YtahkeoegbjopfaaGreat
set_option maxRecDepth 100000
open Go.RowKit
attribute [local irreducible] carryS openS closeS plusS minusS timesS powerS ofS shiftedS restS subS negS mulS powS invS
set_option maxRecDepth 100000 in
set_option maxHeartbeats 1000000 in
theorem K_f3Root {a r : N32} {b : Bool} (w : World) (hr : rootS a = (r, b)) :
  CallsR Tryz.prog 157 [.agg (B8 a.1).toArray] w fun v w' => v = .tuple #[.agg (B8 r.1).toArray, .bool b] ∧ Below w.heap.size w w' := by
 have ha := a.2
 obtain ⟨s1, hs1⟩ : ∃ q, shiftedS 5 3 = q := ⟨_, rfl⟩
 obtain ⟨s2, hs2⟩ : ∃ q, shiftedS 1 2 = q := ⟨_, rfl⟩
 obtain ⟨t2, ht2⟩ : ∃ q, ofS 2 = q := ⟨_, rfl⟩
 obtain ⟨p, hp⟩ : ∃ q, powS a s1 = q := ⟨_, rfl⟩
 obtain ⟨x, hx⟩ : ∃ q, mulS p a = q := ⟨_, rfl⟩
 obtain ⟨u, hu⟩ : ∃ q, powS t2 s2 = q := ⟨_, rfl⟩
 obtain ⟨x2, hx2⟩ : ∃ q, mulS x u = q := ⟨_, rfl⟩
 obtain ⟨m, hm⟩ : ∃ q, mulS x x = q := ⟨_, rfl⟩
 have hB : rtB a x = if sameS m a then x else x2 := by unfold rtB; rw [hm, ht2, hs2, hu, hx2]
 have hr2 : rtC a (rtB a x) = (r, b) := by rw [← hr, ← hx, ← hp, ← hs1]; rfl
 have hxl := x.2
 have hx2l := x2.2
 clear hr
 refine callsR Tryz.func157 rfl rfl (by kernel_rfl) rfl ?_
 have hw := Below.refl w.heap.size w
 refine zs ?_
 refine wl_boxg _ rfl (by rfl) ?_
 rintro g1 w1 f1 b1 i1 i1_1
 have s1_1 := b1.size
 replace hw := hw.trans (b1.mono hw.size)
 refine wl_allocB Tryz.underlying108 Tryz.zeroValue108 (by rfl) ?_
 rintro g2 w2 f2 b2 i2 i2_1
 have s2_1 := b2.size
 replace hw := hw.trans (b2.mono hw.size)
 replace f1 := f1.u b2
 refine za rfl (wl_nil (rk_seq ?_))
 refine rk_drawo (id := 1) (none) [0, 0, 3, 0, 12, 0, 63] [0, 0, 3, 0, 15, 0, 63] 118 38 [0, 3] [(.s, 0), (.s, 3), (.f 9 118 38, 5)] (by kernel_rfl) (by kernel_rfl) (by kernel_rfl) (by kernel_rfl) (by kernel_rfl) ?_
 dsimp only [inOrder, nthOp]
 replace hw := hw.drew
 replace f1 := f1.d
 replace f2 := f2.d
 refine wl_s (fun _ hk => (o_ldBa Tryz.isAgg108 Tryz.sizeOf108 rfl (f1.u (below_of_grown_none hk)) ha)) ?_
 refine wl_s (fun _ hk => (o_ldBa Tryz.isAgg108 Tryz.sizeOf108 rfl (f1.u (below_of_grown_none hk)) ha)) ?_
 refine wl_conc [⟨1, [], [6], [], fun vs w' lo hi => vs = [.agg (B8 s1.1).toArray]⟩, ⟨2, [], [7], [0], fun vs w' lo hi => vs = [.agg (B8 p.1).toArray]⟩, ⟨4, [], [9], [0, 1], fun vs w' lo hi => vs = [.agg (B8 x.1).toArray]⟩, ⟨5, [], [4], [], fun vs w' lo hi => ∃ (g4 : Nat), vs = [.pointer (some ⟨g4, 0, none⟩)] ∧ Blk w' g4 108 (B8 (List.replicate 32 0)) ∧ lo ≤ g4 ∧ g4 < hi⟩] [0, 1, 2, 3] [0, 0, 3, 0, 12, 0, 63] [0, 0, 3, 0, 15, 0, 63] [6] [(.l, 6)] (by kernel_rfl) (by kernel_rfl) (by kernel_rfl) (by kernel_rfl) ⟨fun _ _ _ _ _ h _ => h, fun _ _ _ _ _ h _ => h, fun _ _ _ _ _ h _ => h, fun _ _ _ _ _ h hb => by obtain ⟨g4, e0, g0, g1, g2⟩ := h; exact ⟨g4, e0, g0.u hb, g1, g2⟩, trivial⟩ ⟨?_, ?_, ?_, ?_, trivial⟩ ?_
 ·intro wI hbI fo T T2 n2
  intro hk
  dsimp only [Item.idx, inOrder, nthOp, List.map, List.zip_cons_cons, List.zip_nil_right, List.cons_append, List.nil_append]
  have shbI := hbI.size
  simp only [drew_size] at shbI
  replace hw := hw.trans (hbI.mono hw.size)
  replace f2 := f2.u hbI
  replace f1 := f1.u hbI
  have hw1 := Below.refl wI.heap.size wI
  refine wl_call rfl (C_f3shifted _ (by omega) (by omega) (by omega) hs1) ?_ (hq := .inr fun _ _ h => grown_of_below h.2 _)
  rintro v6 w6 ⟨rfl, b6⟩
  have s6 := b6.size
  replace hw := hw.trans (b6.mono hw.size)
  replace hw1 := hw1.trans (b6.mono hw1.size)
  replace f1 := f1.u b6
  replace f2 := f2.u b6
  exact hk [_] _ rfl hw1
 ·intro wI hbI fo T T2 n2
  rintro _ lo0 hi0 ⟨rfl⟩ ql0 qm0 qh0 -
  try dsimp only at ql0 qm0 qh0 
  try simp only [drew_size] at ql0 qm0 qh0 
  intro hk
  dsimp only [Item.idx, inOrder, nthOp, List.map, List.zip_cons_cons, List.zip_nil_right, List.cons_append, List.nil_append]
  have shbI := hbI.size
  simp only [drew_size] at shbI
  replace hw := hw.trans (hbI.mono hw.size)
  replace f2 := f2.u hbI
  replace f1 := f1.u hbI
  have hw1 := Below.refl wI.heap.size wI
  refine wl_call rfl (C_f3Pow _ hp) ?_ (hq := .inr fun _ _ h => grown_of_below h.2 _)
  rintro v7 w7 ⟨rfl, b7⟩
  have s7 := b7.size
  replace hw := hw.trans (b7.mono hw.size)
  replace hw1 := hw1.trans (b7.mono hw1.size)
  replace f1 := f1.u b7
  replace f2 := f2.u b7
  exact hk [_] _ rfl hw1
 ·intro wI hbI fo T T2 n2
  rintro _ lo0 hi0 ⟨rfl⟩ ql0 qm0 qh0 -
  rintro _ lo1 hi1 ⟨rfl⟩ ql1 qm1 qh1 ⟨qa1_0, -⟩
  try dsimp only at ql0 qm0 qh0  ql1 qm1 qh1 qa1_0
  try simp only [drew_size] at ql0 qm0 qh0  ql1 qm1 qh1 qa1_0
  intro hk
  dsimp only [Item.idx, inOrder, nthOp, List.map, List.zip_cons_cons, List.zip_nil_right, List.cons_append, List.nil_append]
  have shbI := hbI.size
  simp only [drew_size] at shbI
  replace hw := hw.trans (hbI.mono hw.size)
  replace f2 := f2.u hbI
  replace f1 := f1.u hbI
  have hw1 := Below.refl wI.heap.size wI
  refine wl_call rfl (C_f3Mul _ hx) ?_
  rintro v9 w9 ⟨rfl, b9⟩
  have s9 := b9.size
  replace hw := hw.trans (b9.mono hw.size)
  replace hw1 := hw1.trans (b9.mono hw1.size)
  replace f1 := f1.u b9
  replace f2 := f2.u b9
  exact hk [_] _ rfl hw1
 ·intro wI hbI fo T T2 n2
  intro hk
  dsimp only [Item.idx, inOrder, nthOp, List.map, List.zip_cons_cons, List.zip_nil_right, List.cons_append, List.nil_append]
  have shbI := hbI.size
  simp only [drew_size] at shbI
  replace hw := hw.trans (hbI.mono hw.size)
  replace f2 := f2.u hbI
  replace f1 := f1.u hbI
  have hw1 := Below.refl wI.heap.size wI
  refine wl_allocB Tryz.underlying108 Tryz.zeroValue108 (by rfl) ?_
  rintro g4 w4 f4 b4 i4 i4_1
  have s4 := b4.size
  replace hw := hw.trans (b4.mono hw.size)
  replace hw1 := hw1.trans (b4.mono hw1.size)
  replace f1 := f1.u b4
  replace f2 := f2.u b4
  exact hk [_] _ ⟨_, rfl, f4, by omega, by omega⟩ hw1
 intro wE hbE
 rintro _ lo0 hi0 ⟨rfl⟩ ql0 qm0 qh0 -
 rintro _ lo1 hi1 ⟨rfl⟩ ql1 qm1 qh1 ⟨qa1_0, -⟩
 rintro _ lo2 hi2 ⟨rfl⟩ ql2 qm2 qh2 ⟨qa2_1, qa2_0, -⟩
 rintro _ lo3 hi3 ⟨g4, rfl, f4, f4_1, f4_2⟩ ql3 qm3 qh3 ⟨qa3_2, qa3_1, qa3_0, -⟩
 try dsimp only at ql0 qm0 qh0  ql1 qm1 qh1 qa1_0 ql2 qm2 qh2 qa2_0 qa2_1 ql3 qm3 qh3 qa3_0 qa3_1 qa3_2
 try simp only [drew_size] at ql0 qm0 qh0  ql1 qm1 qh1 qa1_0 ql2 qm2 qh2 qa2_0 qa2_1 ql3 qm3 qh3 qa3_0 qa3_1 qa3_2
 dsimp only [given, Item.idx, inOrder, nthOp, List.map, List.zip_cons_cons, List.zip_nil_right]
 have shbE := hbE.size
 simp only [drew_size] at shbE
 replace hw := hw.trans (hbE.mono hw.size)
 replace f2 := f2.u hbE
 replace f1 := f1.u hbE
 refine wl_stBa Tryz.sizeOf108 rfl f4 rfl hxl (by rfl) ?_
 rintro w_1 f g e
 have s := g.size
 replace hw := hw.trans (below_of_grownBy g.g hw.size (by omega))
 replace f1 := f1.k g.g (ap_some (by omega))
 replace f2 := f2.k g.g (ap_some (by omega))
 clear f4
 refine wl_nild ?_
 refine rk_seq (rk_seq ?_)
 refine rk_drawo (id := 2) (none) [0, 0, 3, 0, 12, 16] [0, 0, 3, 0, 15, 31] 20 4 [0, 1, 3, 2, 4, 5] [(.r, 0), (.r, 1), (.s, 3), (.c, 2), (.l, 4), (.p, 5)] (by kernel_rfl) (by kernel_rfl) (by kernel_rfl) (by kernel_rfl) (by kernel_rfl) ?_
 dsimp only [inOrder, nthOp]
 replace hw := hw.drew
 replace f2 := f2.d
 replace f1 := f1.d
 replace f := f.d
 refine wl_r (o_ldBa Tryz.isAgg108 Tryz.sizeOf108 rfl f hxl) ?_
 refine wl_r (o_ldBa Tryz.isAgg108 Tryz.sizeOf108 rfl f hxl) ?_
 refine wl_s (fun _ hk => (o_ldBa Tryz.isAgg108 Tryz.sizeOf108 rfl (f1.u (below_of_grown_none hk)) ha)) ?_
 refine wl_call rfl (C_f3Mul _ hm) ?_ (hq := .inr fun _ _ h => grown_of_below h.2 _)
 rintro v12 w12 ⟨rfl, b12⟩
 simp only [drew_size] at b12
 have s12 := b12.size
 simp only [drew_size] at s12
 replace hw := hw.trans (b12.mono hw.size)
 replace f := f.u b12
 replace f1 := f1.u b12
 replace f2 := f2.u b12
 refine wl_call rfl (C_f3Same _) ?_
 rintro v14 w14 ⟨rfl, b14⟩
 have s14 := b14.size
 replace hw := hw.trans (b14.mono hw.size)
 replace f2 := f2.u b14
 replace f1 := f1.u b14
 replace f := f.u b14
 refine zp (o_not rfl) ?_
 refine wl_nild ?_
 obtain ⟨y, hy⟩ : ∃ y, rtB a x = y := ⟨_, rfl⟩
 rw [hy] at hr2 hB
 have hyl := y.2
 refine rk_joinkq (fun fb fr V => fr = [] ++ fb.drop 2 ∧ Blk V g1 108 (B8 a.1) ∧ Blk V g2 108 (B8 (List.replicate 32 0)) ∧ Blk V g4 108 (B8 y.1) ∧ Below w.heap.size w V) ?_ (fun ks hj => ?_)
 rotate_left
 ·by_cases hs : sameS m a
  ·rw [if_pos hs] at hB
   rw [decide_eq_true hs]
   refine rk_false rfl ?_
   refine rk_skip ?_
   exact rk_tof hj (Fr.le_of (by kernel_rfl) (by kernel_rfl) (by repeat' constructor)) ⟨rfl, by assumption, by assumption, by rw [hB]; assumption, hw⟩
  ·rw [if_neg hs] at hB
   rw [decide_eq_false hs]
   refine rk_true rfl ?_
   refine rk_draw (id := 3) (none) [0, 0, 2, 6, 9, 31] [0, 0, 2, 6, 15, 31] 62 14 [(.s, 0), (.c, 1), (.c, 2), (.c, 3), (.l, 4), (.l, 5)] (by kernel_rfl) (by kernel_rfl) (by kernel_rfl) (by kernel_rfl) (by kernel_rfl) ?_
   replace hw := hw.drew
   replace f := f.d
   replace f1 := f1.d
   replace f2 := f2.d
   refine wl_s (fun _ hk => (o_ldBa Tryz.isAgg108 Tryz.sizeOf108 rfl (f.u (below_of_grown_none hk)) hxl)) ?_
   refine wl_call rfl (C_f3Of _ ht2) ?_ (hq := .inr fun _ _ h => grown_of_below h.2 _)
   rintro v17 w17 ⟨rfl, b17⟩
   simp only [drew_size] at b17
   have s17 := b17.size
   simp only [drew_size] at s17
   replace hw := hw.trans (b17.mono hw.size)
   replace f2 := f2.u b17
   replace f1 := f1.u b17
   replace f := f.u b17
   refine wl_call rfl (C_f3shifted _ (by omega) (by omega) (by omega) hs2) ?_ (hq := .inr fun _ _ h => grown_of_below h.2 _)
   rintro v18 w18 ⟨rfl, b18⟩
   have s18 := b18.size
   replace hw := hw.trans (b18.mono hw.size)
   replace f := f.u b18
   replace f1 := f1.u b18
   replace f2 := f2.u b18
   refine wl_call rfl (C_f3Pow _ hu) ?_ (hq := .inr fun _ _ h => grown_of_below h.2 _)
   rintro v19 w19 ⟨rfl, b19⟩
   have s19 := b19.size
   replace hw := hw.trans (b19.mono hw.size)
   replace f2 := f2.u b19
   replace f1 := f1.u b19
   replace f := f.u b19
   refine wl_call rfl (C_f3Mul _ hx2) ?_
   rintro v20 w20 ⟨rfl, b20⟩
   have s20 := b20.size
   replace hw := hw.trans (b20.mono hw.size)
   replace f := f.u b20
   replace f1 := f1.u b20
   replace f2 := f2.u b20
   refine wl_stBa Tryz.sizeOf108 rfl f rfl hx2l hxl ?_
   rintro w_2 f_1 g_1 e_1
   have s_1 := g_1.size
   replace hw := hw.trans (below_of_grownBy g_1.g hw.size (by omega))
   replace f2 := f2.k g_1.g (ap_some (by omega))
   replace f1 := f1.k g_1.g (ap_some (by omega))
   clear f
   refine wl_nild ?_
   exact rk_tof hj (Fr.le_of (by kernel_rfl) (by kernel_rfl) (by repeat' constructor)) ⟨rfl, by assumption, by assumption, by rw [hB]; assumption, hw⟩
 clear hw f1 f2 f
 rintro fr V ⟨rfl, f1, f2, f4, hw⟩
 have shw := hw.size
 obtain ⟨m2, hm2⟩ : ∃ q, mulS y y = q := ⟨_, rfl⟩
 unfold rtC at hr2
 rw [hm2] at hr2
 first | refine zf ?_ | refine zg ?_
 refine rk_seq (rk_seq ?_)
 refine rk_drawo (id := 4) (none) [0, 0, 3, 0, 12, 16] [0, 0, 3, 0, 15, 31] 20 4 [0, 1, 3, 2, 4, 5] [(.r, 0), (.r, 1), (.s, 3), (.c, 2), (.l, 4), (.p, 5)] (by kernel_rfl) (by kernel_rfl) (by kernel_rfl) (by kernel_rfl) (by kernel_rfl) ?_
 dsimp only [inOrder, nthOp]
 replace hw := hw.drew
 replace f4 := f4.d
 replace f2 := f2.d
 replace f1 := f1.d
 refine wl_r (o_ldBa Tryz.isAgg108 Tryz.sizeOf108 rfl f4 hyl) ?_
 refine wl_r (o_ldBa Tryz.isAgg108 Tryz.sizeOf108 rfl f4 hyl) ?_
 refine wl_s (fun _ hk => (o_ldBa Tryz.isAgg108 Tryz.sizeOf108 rfl (f1.u (below_of_grown_none hk)) ha)) ?_
 refine wl_call rfl (C_f3Mul _ hm2) ?_ (hq := .inr fun _ _ h => grown_of_below h.2 _)
 rintro v23 w23 ⟨rfl, b23⟩
 simp only [drew_size] at b23
 have s23 := b23.size
 simp only [drew_size] at s23
 replace hw := hw.trans (b23.mono hw.size)
 replace f1 := f1.u b23
 replace f2 := f2.u b23
 replace f4 := f4.u b23
 refine wl_call rfl (C_f3Same _) ?_
 rintro v25 w25 ⟨rfl, b25⟩
 have s25 := b25.size
 replace hw := hw.trans (b25.mono hw.size)
 replace f4 := f4.u b25
 replace f2 := f2.u b25
 replace f1 := f1.u b25
 refine zp (o_not rfl) ?_
 refine wl_nild ?_
 by_cases hs : sameS m2 a
 ·rw [if_pos hs] at hr2
  rw [decide_eq_true hs]
  refine rk_false rfl ?_
  refine rk_skip (rk_seq (zs ?_))
  refine wl_r (o_ldBa Tryz.isAgg108 Tryz.sizeOf108 rfl f4 hyl) ?_
  refine wl_call rfl (C_f3Odd _) ?_
  rintro v29 w29 ⟨rfl, b29⟩
  have s29 := b29.size
  replace hw := hw.trans (b29.mono hw.size)
  replace f1 := f1.u b29
  replace f2 := f2.u b29
  replace f4 := f4.u b29
  refine wl_nil ?_
  refine rk_joinkq (fun fb fr V => fr = [] ++ fb.drop 1 ∧ Blk V g2 108 (B8 (List.replicate 32 0)) ∧ Blk V g4 108 (B8 r.1) ∧ b = true ∧ Below w.heap.size w V) ?_ (fun ks hj => ?_)
  rotate_left
  ·by_cases ho : oddS y
   ·rw [if_pos ho] at hr2
    injection hr2 with h1 h2
    rw [decide_eq_true ho]
    refine rk_true rfl ?_
    refine rk_region ?_
    refine wl_r (o_ldBa Tryz.isAgg108 Tryz.sizeOf108 rfl f4 hyl) ?_
    refine wl_call rfl (C_f3Neg _ h1) ?_
    rintro v31 w31 ⟨rfl, b31⟩
    have s31 := b31.size
    replace hw := hw.trans (b31.mono hw.size)
    replace f4 := f4.u b31
    replace f2 := f2.u b31
    replace f1 := f1.u b31
    refine wl_stBa Tryz.sizeOf108 rfl f4 rfl (by omega) hyl ?_
    rintro w_2 f g_1 e_1
    have s_1 := g_1.size
    replace hw := hw.trans (below_of_grownBy g_1.g hw.size (by omega))
    replace f1 := f1.k g_1.g (ap_some (by omega))
    replace f2 := f2.k g_1.g (ap_some (by omega))
    clear f4
    refine wl_nil ?_
    exact rk_tof hj (Fr.le_of (by kernel_rfl) (by kernel_rfl) (by repeat' constructor)) ⟨rfl, by assumption, by assumption, h2.symm, hw⟩
   ·rw [if_neg ho] at hr2
    injection hr2 with h1 h2
    rw [decide_eq_false ho]
    refine rk_false rfl ?_
    refine rk_skip ?_
    exact rk_tof hj (Fr.le_of (by kernel_rfl) (by kernel_rfl) (by repeat' constructor)) ⟨rfl, by assumption, by rw [← h1]; assumption, h2.symm, hw⟩
  clear hw f1 f2 f4
  rintro fr V ⟨rfl, f2, f4, rfl, hw⟩
  have shw := hw.size
  have hrl := r.2
  first | refine zf ?_ | refine zg ?_
  refine zs ?_
  refine wl_r (o_ldBa Tryz.isAgg108 Tryz.sizeOf108 rfl f4 hrl) ?_
  refine wl_stBa Tryz.sizeOf108 rfl f2 rfl hrl (by rfl) ?_
  rintro w_2 f g_1 e_1
  have s_1 := g_1.size
  replace hw := hw.trans (below_of_grownBy g_1.g hw.size (by omega))
  replace f4 := f4.k g_1.g (ap_some (by omega))
  clear f2
  refine za rfl (wl_nil ?_)
  refine ret_any rfl (.cell rfl Tryz.isAgg108 Tryz.sizeOf108 (by assumption) (by first | exact vI10 | exact b32 | exact ptC_len _ | exact frC_len _ | rfl) <| .tmp rfl <| .nil) (by simp) ?_
  exact ⟨rfl, hw⟩
 ·rw [if_neg hs] at hr2
  injection hr2 with h1 h2
  subst h1; subst h2
  rw [decide_eq_false hs]
  refine rk_true rfl ?_
  refine zs ?_
  refine zp (o_num0 rfl) ?_
  refine wl_stBa Tryz.sizeOf108 rfl f2 rfl (by rfl) (by rfl) ?_
  rintro w_2 f g_1 e_1
  have s_1 := g_1.size
  replace hw := hw.trans (below_of_grownBy g_1.g hw.size (by omega))
  replace f1 := f1.k g_1.g (ap_some (by omega))
  replace f4 := f4.k g_1.g (ap_some (by omega))
  clear f2
  refine za rfl (wl_nil ?_)
  refine ret_any rfl (.cell rfl Tryz.isAgg108 Tryz.sizeOf108 (by assumption) (by first | exact vI10 | exact b32 | exact ptC_len _ | exact frC_len _ | rfl) <| .tmp rfl <| .nil) (by simp) ?_
  exact ⟨rfl, hw⟩
theorem C_f3Root {a : N32} {q : N32 × Bool} (w : World) (hr : rootS a = q) :
  CallsR Tryz.prog 157 [.agg (B8 a.1).toArray] w fun v w' => v = .tuple #[.agg (B8 q.1.1).toArray, .bool q.2] ∧ Below w.heap.size w w' := K_f3Root w hr
end Go.Proofs.YtahkeoegbjopfaaGreat
namespace Go.Proofs.YtahkeoegbjopfaaGreat
set_option maxRecDepth 100000
open Go.RowKit
abbrev Pt := N32 × N32
abbrev Fr3 := W10 × W10 × W10
def ptC (p : Pt) : List Value := B8 p.1.1 ++ B8 p.2.1
def frC (p : Fr3) : List Value := vI p.1.1 ++ (vI p.2.1.1 ++ vI p.2.2.1)
theorem ptC_len (p : Pt) : (ptC p).length = 64 := by
 have h1 := p.1.2
 have h2 := p.2.2
 rw [ptC, List.length_append, B8_length, B8_length, h1, h2]
theorem frC_len (p : Fr3) : (frC p).length = 30 := by
 have h1 := p.1.2
 have h2 := p.2.1.2
 have h3 := p.2.2.2
 rw [frC, List.length_append, List.length_append, vI_length, vI_length, vI_length, h1, h2, h3]
theorem ptC_one (p : Pt) : ∀ v ∈ ptC p, v.oneCell' = true := fun v h => by
 rcases List.mem_append.1 h with h | h
 ·exact B8_oneCell' _ v h
 ·exact B8_oneCell' _ v h
theorem frC_one (p : Fr3) : ∀ v ∈ frC p, v.oneCell' = true := fun v h => by
 rcases List.mem_append.1 h with h | h
 ·exact vI_one _ v h
 ·rcases List.mem_append.1 h with h | h
  ·exact vI_one _ v h
  ·exact vI_one _ v h
def dS : N32 := mulS (negS (ofS 121665)) (invS (ofS 121666))
def zeroPt : Pt := (n32z, ofS 1)
def rtU (y2 : N32) : N32 := mulS (ofS 121666) (subS y2 (ofS 1))
def rtD (y2 : N32) : N32 := subS (ofS 121666) (mulS (ofS 121665) y2)
def crRoot (y : N32) : N32 × Bool := rootS (mulS (rtU (mulS y y)) (invS (rtD (mulS y y))))
def baseY : N32 := mulS (ofS 4) (invS (ofS 5))
def baseS : Pt := ((crRoot baseY).1, baseY)
def ckL (x2 y2 : N32) : N32 := mulS (ofS 121666) (subS (subS y2 x2) (ofS 1))
def ckR (x2 y2 : N32) : N32 := negS (mulS (ofS 121665) (mulS x2 y2))
def ckS (p : Pt) : Int := if restS p.1 = p.1 ∧ restS p.2 = p.2 ∧ ckL (mulS p.1 p.1) (mulS p.2 p.2) = ckR (mulS p.1 p.1) (mulS p.2 p.2) then 0 else 2
def fpA (p q : Fr3) : W10 := timesS p.2.2 q.2.2
def fpC (p q : Fr3) : W10 := timesS p.1 q.1
def fpE (p q : Fr3) : W10 := timesS p.2.1 q.2.1
def fpX (p q : Fr3) (both : W10) : W10 := minusS (timesS (plusS p.1 p.2.1) (plusS q.1 q.2.1)) both
def fpZ (a b m both cross : W10) : Fr3 := (timesS a (timesS (minusS b m) cross), timesS a (timesS (plusS b m) both), timesS (minusS b m) (plusS b m))
def fplus (d : W10) (p q : Fr3) : Fr3 := fpZ (fpA p q) (timesS (fpA p q) (fpA p q)) (timesS d (timesS (fpC p q) (fpE p q))) (plusS (fpC p q) (fpE p q)) (fpX p q (plusS (fpC p q) (fpE p q)))
def nearS (p : Fr3) : Pt := (mulS (closeS p.1) (invS (closeS p.2.2)), mulS (closeS p.2.1) (invS (closeS p.2.2)))
def awayS (p : Pt) : Fr3 := (openS p.1, openS p.2, openS (ofS 1))
def mlA (d : W10) (a : N32) (x o : Fr3) (j : Nat) : Fr3 := if bit8 (a.at ((255 - j) / 8)) ((255 - j) % 8) then fplus d o x else o
def mlI (d : W10) (a : N32) (x : Fr3) (b : N32) (y o : Fr3) (j : Nat) : Fr3 := mlA d b y (mlA d a x (fplus d o o) j) j
def mlF (d : W10) (a : N32) (x : Fr3) (b : N32) (y o : Fr3) : Fr3 := foldN (mlI d a x b y) 256 o
def mul2S (a : N32) (p : Pt) (b : N32) (q : Pt) : Pt := if ckS p = 0 ∧ ckS q = 0 then nearS (mlF (openS dS) a (awayS p) b (awayS q) (awayS zeroPt)) else zeroPt
def mulPt (k : N32) (p : Pt) : Pt := mul2S k p n32z zeroPt
def bytesPt (p : Pt) : N32 × Int := if ckS p = 0 then (if oddS p.1 then p.2.put 31 (lo8 (((p.2.at 31).toNat : Int) + 128)) else p.2, 0) else (n32z, 2)
end Go.Proofs.YtahkeoegbjopfaaGreat
namespace Go.Proofs.YtahkeoegbjopfaaGreat
set_option maxRecDepth 100000
open Go.RowKit
attribute [local irreducible] carryS openS closeS plusS minusS timesS powerS ofS shiftedS restS subS negS mulS powS invS rootS
theorem n32_cases (u : N32) (p : N32 → Prop) (h : ∀ b0 b1 b2 b3 b4 b5 b6 b7 b8 b9 b10 b11 b12 b13 b14 b15 b16 b17 b18 b19 b20 b21 b22 b23 b24 b25 b26 b27 b28 b29 b30 b31 : UInt8, p ⟨[b0, b1, b2, b3, b4, b5, b6, b7, b8, b9, b10, b11, b12, b13, b14, b15, b16, b17, b18, b19, b20, b21, b22, b23, b24, b25, b26, b27, b28, b29, b30, b31], rfl⟩) : p u := by
 obtain ⟨l, hl⟩ := u
 match l, hl with
 | [b0, b1, b2, b3, b4, b5, b6, b7, b8, b9, b10, b11, b12, b13, b14, b15, b16, b17, b18, b19, b20, b21, b22, b23, b24, b25, b26, b27, b28, b29, b30, b31], _ => exact h ..
theorem w10_cases (u : W10) (p : W10 → Prop) (h : ∀ x0 x1 x2 x3 x4 x5 x6 x7 x8 x9 : Int, p ⟨[x0, x1, x2, x3, x4, x5, x6, x7, x8, x9], rfl⟩) : p u := by
 obtain ⟨l, hl⟩ := u
 match l, hl with
 | [x0, x1, x2, x3, x4, x5, x6, x7, x8, x9], _ => exact h ..
section
variable {fn : Func} {F : Ending → World → Prop} {N : Nat} {ks : List K} {ops : Array Oper} {tg : Tags} {l : List Oper} {fr : Fr} {w : World} {ty t' : TypeId} {pos : String} {aft : Array Edge} {gd : Option (Nat × Bool)} {d g : Nat} {x y : Operand} {p q : Pt} {a b : N32} {u v z : W10} {f h : Fr3} {cs : List Value}
theorem cells_at {w : World} {g i : Nat} {t : TypeId} {cs part : List Value} (hB : Blk w g t cs) (h : ∀ j v, part[j]? = some v → cs[i + j]? = some v) : ∀ j v, part[j]? = some v → w.cell? ((⟨g, i, none⟩ : Addr).add j) = some v := fun j v hv => by
 rw [add_plain, hB.cell]; exact h j v hv
theorem o_ldPtX (hx : fr.ev x = some (.pointer (some ⟨g, 0, none⟩))) (hB : Blk w g t' (ptC p)) : OpV Tryz.prog N fr w (.load 108 x) ty (.agg (B8 p.1.1).toArray) w :=
 o_loadn Tryz.isAgg108 (by rw [b32]; exact Tryz.sizeOf108) hx (cells_at hB (fun j v hv => by
  have hj := (List.getElem?_eq_some_iff.1 hv).1
  rw [Nat.zero_add, ptC, List.getElem?_append_left hj]; exact hv))
theorem o_ldPtY (hx : fr.ev x = some (.pointer (some ⟨g, 32, none⟩))) (hB : Blk w g t' (ptC p)) : OpV Tryz.prog N fr w (.load 108 x) ty (.agg (B8 p.2.1).toArray) w :=
 o_loadn Tryz.isAgg108 (by rw [b32]; exact Tryz.sizeOf108) hx (cells_at hB (fun j v hv => by
  rw [ptC, List.getElem?_append_right (by rw [b32]; omega), b32, show 32 + j - 32 = j by omega]; exact hv))
theorem o_ldPt (hx : fr.ev x = some (.pointer (some ⟨g, 0, none⟩))) (hB : Blk w g t' (ptC p)) : OpV Tryz.prog N fr w (.load 110 x) ty (.agg (ptC p).toArray) w :=
 o_load_all Tryz.isAgg110 Tryz.sizeOf110 hx hB (ptC_len p)
theorem wl_stPt (hx : fr.ev x = some (.pointer (some ⟨g, 0, none⟩))) (hB : Blk w g t' cs) (hy : fr.ev y = some (.agg (ptC p).toArray)) (hi : cs.length = 64)
  (hk : ∀ w', Blk w' g t' (ptC p) → Grew w w' t' (some g) → w'.heap.size = w.heap.size → WL Tryz.prog fn F N ks ops tg.tail l fr w') (ht : tg.loud = true := by rfl) (hg : onG ops fr gd = true := by rfl) (hq : tg.calm = false ∨ tg.rw.may (some g) := by exact .inl rfl) :
  WL Tryz.prog fn F N ks ops tg (⟨none, .store 110 x y, ty, pos, aft, gd⟩ :: l) fr w :=
 wl_storega Tryz.sizeOf110 hx hy (ptC_len p) (ptC_one p) hB hi hk ht hg hq
theorem wl_stW0 (hx : fr.ev x = some (.pointer (some ⟨g, 0, none⟩))) (hB : Blk w g t' cs) (hy : fr.ev y = some (.agg (vI u.1).toArray)) (hi : cs.length = 10)
  (hk : ∀ w', Blk w' g t' (vI u.1) → Grew w w' t' (some g) → w'.heap.size = w.heap.size → WL Tryz.prog fn F N ks ops tg.tail l fr w') (ht : tg.loud = true := by rfl) (hg : onG ops fr gd = true := by rfl) (hq : tg.calm = false ∨ tg.rw.may (some g) := by exact .inl rfl) :
  WL Tryz.prog fn F N ks ops tg (⟨none, .store 173 x y, ty, pos, aft, gd⟩ :: l) fr w :=
 wl_storega Tryz.sizeOf173 hx hy vI10 (vI_one _) hB hi hk ht hg hq
theorem o_ldFrX (hx : fr.ev x = some (.pointer (some ⟨g, 0, none⟩))) (hB : Blk w g t' (frC f)) : OpV Tryz.prog N fr w (.load 173 x) ty (.agg (vI f.1.1).toArray) w :=
 o_loadn Tryz.isAgg173 (by rw [vI10]; exact Tryz.sizeOf173) hx (cells_at hB (fun j v hv => by
  have hj := (List.getElem?_eq_some_iff.1 hv).1
  rw [Nat.zero_add, frC, List.getElem?_append_left hj]; exact hv))
theorem o_ldFrY (hx : fr.ev x = some (.pointer (some ⟨g, 10, none⟩))) (hB : Blk w g t' (frC f)) : OpV Tryz.prog N fr w (.load 173 x) ty (.agg (vI f.2.1.1).toArray) w :=
 o_loadn Tryz.isAgg173 (by rw [vI10]; exact Tryz.sizeOf173) hx (cells_at hB (fun j v hv => by
  have hj := (List.getElem?_eq_some_iff.1 hv).1
  rw [frC, List.getElem?_append_right (by rw [vI10]; omega), vI10, show 10 + j - 10 = j by omega, List.getElem?_append_left hj]; exact hv))
theorem o_ldFrZ (hx : fr.ev x = some (.pointer (some ⟨g, 20, none⟩))) (hB : Blk w g t' (frC f)) : OpV Tryz.prog N fr w (.load 173 x) ty (.agg (vI f.2.2.1).toArray) w :=
 o_loadn Tryz.isAgg173 (by rw [vI10]; exact Tryz.sizeOf173) hx (cells_at hB (fun j v hv => by
  rw [frC, List.getElem?_append_right (by rw [vI10]; omega), vI10, List.getElem?_append_right (by rw [vI10]; omega), vI10, show 20 + j - 10 - 10 = j by omega]; exact hv))
theorem o_ldFr (hx : fr.ev x = some (.pointer (some ⟨g, 0, none⟩))) (hB : Blk w g t' (frC f)) : OpV Tryz.prog N fr w (.load 177 x) ty (.agg (frC f).toArray) w :=
 o_load_all Tryz.isAgg177 Tryz.sizeOf177 hx hB (frC_len f)
theorem wl_stFr (hx : fr.ev x = some (.pointer (some ⟨g, 0, none⟩))) (hB : Blk w g t' cs) (hy : fr.ev y = some (.agg (frC f).toArray)) (hi : cs.length = 30)
  (hk : ∀ w', Blk w' g t' (frC f) → Grew w w' t' (some g) → w'.heap.size = w.heap.size → WL Tryz.prog fn F N ks ops tg.tail l fr w') (ht : tg.loud = true := by rfl) (hg : onG ops fr gd = true := by rfl) (hq : tg.calm = false ∨ tg.rw.may (some g) := by exact .inl rfl) :
  WL Tryz.prog fn F N ks ops tg (⟨none, .store 177 x y, ty, pos, aft, gd⟩ :: l) fr w :=
 wl_storega Tryz.sizeOf177 hx hy (frC_len f) (frC_one f) hB hi hk ht hg hq
theorem o_bldPtY (hy : fr.ev y = some (.agg (B8 b.1).toArray)) : OpV Tryz.prog N fr w (.build 110 #[(1, y)]) ty (.agg (ptC (n32z, b)).toArray) w :=
 o_build (is := [1]) (xs := [y]) (vs := [.agg (B8 b.1).toArray]) (by simp [Fr.evs, hy]) (fun w => n32_cases b (fun b => (Instr.build 110 ([1].zip [.agg (B8 b.1).toArray]).toArray).run Tryz.prog w = .ok (.agg (ptC (n32z, b)).toArray) w) (by intros; kernel_rfl))
theorem o_bldPt (hx : fr.ev x = some (.agg (B8 a.1).toArray)) (hy : fr.ev y = some (.agg (B8 b.1).toArray)) : OpV Tryz.prog N fr w (.build 110 #[(0, x), (1, y)]) ty (.agg (ptC (a, b)).toArray) w :=
 o_build (is := [0, 1]) (xs := [x, y]) (vs := [.agg (B8 a.1).toArray, .agg (B8 b.1).toArray]) (by simp [Fr.evs, hx, hy]) (fun w => n32_cases a (fun a => (Instr.build 110 ([0, 1].zip [.agg (B8 a.1).toArray, .agg (B8 b.1).toArray]).toArray).run Tryz.prog w = .ok (.agg (ptC (a, b)).toArray) w) (by intros; exact n32_cases b (fun b => (Instr.build 110 ([0, 1].zip [.agg (B8 _).toArray, .agg (B8 b.1).toArray]).toArray).run Tryz.prog w = .ok (.agg (ptC (⟨_, rfl⟩, b)).toArray) w) (by intros; kernel_rfl)))
theorem o_bldFr {xz : Operand} (hx : fr.ev x = some (.agg (vI u.1).toArray)) (hy : fr.ev y = some (.agg (vI v.1).toArray)) (hz : fr.ev xz = some (.agg (vI z.1).toArray)) : OpV Tryz.prog N fr w (.build 177 #[(0, x), (1, y), (2, xz)]) ty (.agg (frC (u, v, z)).toArray) w :=
 o_build (is := [0, 1, 2]) (xs := [x, y, xz]) (vs := [.agg (vI u.1).toArray, .agg (vI v.1).toArray, .agg (vI z.1).toArray]) (by simp [Fr.evs, hx, hy, hz]) (fun w => w10_cases u (fun u => (Instr.build 177 ([0, 1, 2].zip [.agg (vI u.1).toArray, .agg (vI v.1).toArray, .agg (vI z.1).toArray]).toArray).run Tryz.prog w = .ok (.agg (frC (u, v, z)).toArray) w) (by intros; exact w10_cases v (fun v => (Instr.build 177 ([0, 1, 2].zip [.agg (vI _).toArray, .agg (vI v.1).toArray, .agg (vI z.1).toArray]).toArray).run Tryz.prog w = .ok (.agg (frC (⟨_, rfl⟩, v, z)).toArray) w) (by intros; exact w10_cases z (fun z => (Instr.build 177 ([0, 1, 2].zip [.agg (vI _).toArray, .agg (vI _).toArray, .agg (vI z.1).toArray]).toArray).run Tryz.prog w = .ok (.agg (frC (⟨_, rfl⟩, ⟨_, rfl⟩, z)).toArray) w) (by intros; kernel_rfl))))
end
set_option maxRecDepth 100000 in
theorem C_f5D {r : N32} (w : World) (hr : dS = r) :
  CallsR Tryz.prog 148 [] w fun v w' => v = .agg (B8 r.1).toArray ∧ Below w.heap.size w w' := by
 obtain ⟨a, ha⟩ : ∃ q, ofS 121665 = q := ⟨_, rfl⟩
 obtain ⟨b, hb⟩ : ∃ q, ofS 121666 = q := ⟨_, rfl⟩
 obtain ⟨c, hc⟩ : ∃ q, negS a = q := ⟨_, rfl⟩
 obtain ⟨d, hd⟩ : ∃ q, invS b = q := ⟨_, rfl⟩
 have he : mulS c d = r := by rw [← hc, ← hd, ← ha, ← hb]; exact hr
 clear hr
 refine callsR Tryz.func148 rfl rfl (by kernel_rfl) rfl ?_
 have hw := Below.refl w.heap.size w
 refine zs ?_
 refine wl_allocB Tryz.underlying108 Tryz.zeroValue108 (by rfl) ?_
 rintro g0 w0 f0 b0 i0 i0_1
 have s0 := b0.size
 replace hw := hw.trans (b0.mono hw.size)
 refine wl_nil (zs ?_)
 refine wl_call rfl (C_f3Of _ ha) ?_
 rintro v1 w1 ⟨rfl, b1⟩
 have s1 := b1.size
 replace hw := hw.trans (b1.mono hw.size)
 replace f0 := f0.u b1
 refine wl_call rfl (C_f3Neg _ hc) ?_
 rintro v2 w2 ⟨rfl, b2⟩
 have s2 := b2.size
 replace hw := hw.trans (b2.mono hw.size)
 replace f0 := f0.u b2
 refine wl_call rfl (C_f3Of _ hb) ?_
 rintro v3 w3 ⟨rfl, b3⟩
 have s3 := b3.size
 replace hw := hw.trans (b3.mono hw.size)
 replace f0 := f0.u b3
 refine wl_call rfl (C_f3Inv _ hd) ?_
 rintro v4 w4 ⟨rfl, b4⟩
 have s4 := b4.size
 replace hw := hw.trans (b4.mono hw.size)
 replace f0 := f0.u b4
 refine wl_call rfl (C_f3Mul _ he) ?_
 rintro v5 w5 ⟨rfl, b5⟩
 have s5 := b5.size
 replace hw := hw.trans (b5.mono hw.size)
 replace f0 := f0.u b5
 refine wl_stBa Tryz.sizeOf108 rfl f0 rfl (by omega) (by rfl) ?_
 rintro w_1 f g e
 have s := g.size
 replace hw := hw.trans (below_of_grownBy g.g hw.size (by omega))
 clear f0
 refine wl_nil ?_
 refine ret_cell rfl rfl Tryz.isAgg108 Tryz.sizeOf108 (by assumption) (by first | exact vI10 | exact b32 | exact ptC_len _ | exact frC_len _ | rfl) ?_
 exact ⟨rfl, hw⟩
set_option maxRecDepth 100000 in
theorem C_f5Zero {r : Pt} (w : World) (hr : zeroPt = r) :
  CallsR Tryz.prog 112 [] w fun v w' => v = .agg (ptC r).toArray ∧ Below w.heap.size w w' := by
 obtain ⟨a, ha⟩ : ∃ q, ofS 1 = q := ⟨_, rfl⟩
 have hr2 : r = (n32z, a) := by rw [← hr, ← ha]; rfl
 clear hr
 refine callsR Tryz.func112 rfl rfl (by kernel_rfl) rfl ?_
 have hw := Below.refl w.heap.size w
 refine zs ?_
 refine wl_allocg [_, _, _, _, _, _, _, _, _, _, _, _, _, _, _, _, _, _, _, _, _, _, _, _, _, _, _, _, _, _, _, _, _, _, _, _, _, _, _, _, _, _, _, _, _, _, _, _, _, _, _, _, _, _, _, _, _, _, _, _, _, _, _, _] Tryz.zeroValue110 (by rfl) ?_
 rintro g0 w0 f0 b0 i0 i0_1
 have s0 := b0.size
 replace hw := hw.trans (b0.mono hw.size)
 refine wl_nil (zs ?_)
 refine wl_call rfl (C_f3Of _ ha) ?_
 rintro v1 w1 ⟨rfl, b1⟩
 have s1 := b1.size
 replace hw := hw.trans (b1.mono hw.size)
 replace f0 := f0.u b1
 refine zp (o_bldPtY rfl) ?_
 refine wl_stPt rfl f0 rfl (by rfl) ?_
 rintro w_1 f g e
 have s := g.size
 replace hw := hw.trans (below_of_grownBy g.g hw.size (by omega))
 clear f0
 refine wl_nil ?_
 refine ret_cell rfl rfl Tryz.isAgg110 Tryz.sizeOf110 (by assumption) (by first | exact vI10 | exact b32 | exact ptC_len _ | exact frC_len _ | rfl) ?_
 exact ⟨by rw [hr2], hw⟩
set_option maxRecDepth 100000 in
theorem C_f4Bit {a : N32} {z : Int} {i : Nat} (w : World) (hz : z = (i : Int)) (hi : i < 256) :
  CallsR Tryz.prog 151 [.agg (B8 a.1).toArray, .int .i64 z] w fun v w' => v = .bool (decide (bit8 (a.at (i / 8)) (i % 8))) ∧ Below w.heap.size w w' := by
 subst hz
 have ha := a.2
 refine callsR Tryz.func151 rfl rfl (by kernel_rfl) rfl ?_
 have hw := Below.refl w.heap.size w
 refine zs ?_
 refine wl_boxg _ rfl (by rfl) ?_
 rintro g2 w2 f2 b2 i2 i2_1
 have s2 := b2.size
 replace hw := hw.trans (b2.mono hw.size)
 refine za rfl (wl_nil (zs (zm rfl ?_)))
 refine zp (o_ge rfl rfl) ?_
 refine zm rfl (zm rfl ?_)
 refine zp (o_lt rfl rfl) ?_
 refine zp (o_pick_t rfl rfl) ?_
 refine zm rfl ?_
 refine wl_know 11 true rfl (decide_eq_true (by omega)) ?_
 refine zm rfl ?_
 refine zp (o_quo rfl rfl (by omega) (by omega) (by omega)) ?_
 refine zp (o_iaddrP (i / 8) Tryz.underlying108 Tryz.sizeOf5 rfl rfl (by omega) (by omega)) ?_
 refine wl_r (o_ldD Tryz.isAgg5 rfl f2 (by omega)) ?_
 refine zm rfl ?_
 refine zp (o_rem rfl rfl (by omega) (by omega)) ?_
 refine zp (o_convu64 (src := 3) (dst := 102) Tryz.underlying3 Tryz.underlying102 rfl (by omega) (by omega)) ?_
 refine zp (o_shr8 (i % 8) rfl rfl (by omega) (by omega)) ?_
 refine zp (o_remz rfl rfl (by omega)) ?_
 refine zp (o_eq rfl rfl) ?_
 refine zp (o_pick_t rfl rfl) ?_
 refine za rfl (wl_nil ?_)
 refine ret1 rfl rfl ?_
 exact ⟨rfl, hw⟩
set_option maxRecDepth 100000 in
theorem C_f5away {p : Pt} {r : Fr3} (w : World) (hr : awayS p = r) :
  CallsR Tryz.prog 149 [.agg (ptC p).toArray] w fun v w' => v = .agg (frC r).toArray ∧ Below w.heap.size w w' := by
 obtain ⟨a, ha⟩ : ∃ q, openS p.1 = q := ⟨_, rfl⟩
 obtain ⟨b, hb⟩ : ∃ q, openS p.2 = q := ⟨_, rfl⟩
 obtain ⟨o, ho⟩ : ∃ q, ofS 1 = q := ⟨_, rfl⟩
 obtain ⟨c, hc⟩ : ∃ q, openS o = q := ⟨_, rfl⟩
 have hr2 : r = (a, b, c) := by rw [← hr, ← hc, ← ho, ← hb, ← ha]; rfl
 clear hr
 refine callsR Tryz.func149 rfl rfl (by kernel_rfl) rfl ?_
 have hw := Below.refl w.heap.size w
 refine zs ?_
 refine wl_boxg _ rfl (by rfl) ?_
 rintro g1 w1 f1 b1 i1 i1_1
 have s1 := b1.size
 replace hw := hw.trans (b1.mono hw.size)
 refine wl_allocg [_, _, _, _, _, _, _, _, _, _, _, _, _, _, _, _, _, _, _, _, _, _, _, _, _, _, _, _, _, _] Tryz.zeroValue177 (by rfl) ?_
 rintro g2 w2 f2 b2 i2 i2_1
 have s2 := b2.size
 replace hw := hw.trans (b2.mono hw.size)
 replace f1 := f1.u b2
 refine wl_nil (rk_seq ?_)
 refine rk_drawo (id := 1) (none) [0, 1, 2, 0, 8, 20, 32, 64, 164, 511] [0, 1, 3, 0, 8, 31, 63, 127, 255, 511] 740 4 [0, 1, 3, 4, 2, 5, 6, 7, 8, 9] [(.p, 0), (.r, 1), (.p, 3), (.s, 4), (.c, 2), (.l, 5), (.l, 6), (.l, 7), (.p, 8), (.l, 9)] (by kernel_rfl) (by kernel_rfl) (by kernel_rfl) (by kernel_rfl) (by kernel_rfl) ?_
 dsimp only [inOrder, nthOp]
 replace hw := hw.drew
 replace f1 := f1.d
 replace f2 := f2.d
 refine zp (o_faddr (s := 110) (i := 0) (off := 0) Tryz.underlying110 rfl Tryz.sizeOf108 rfl rfl rfl) ?_
 refine wl_r (o_ldPtX rfl f1) ?_
 refine zp (o_faddr (s := 110) (i := 1) (off := 32) Tryz.underlying110 rfl Tryz.sizeOf108 rfl rfl rfl) ?_
 refine wl_s (fun _ hk => (o_ldPtY rfl (f1.u (below_of_grown_none hk)))) ?_
 refine wl_call rfl (C_f3Open _ ha) ?_ (hq := .inr fun _ _ h => grown_of_below h.2 _)
 rintro v5 w5 ⟨rfl, b5⟩
 simp only [drew_size] at b5
 have s5 := b5.size
 simp only [drew_size] at s5
 replace hw := hw.trans (b5.mono hw.size)
 replace f2 := f2.u b5
 replace f1 := f1.u b5
 refine wl_call rfl (C_f3Open _ hb) ?_
 rintro v8 w8 ⟨rfl, b8⟩
 have s8 := b8.size
 replace hw := hw.trans (b8.mono hw.size)
 replace f1 := f1.u b8
 replace f2 := f2.u b8
 refine wl_call rfl (C_f3Of _ ho) ?_
 rintro v9 w9 ⟨rfl, b9⟩
 have s9 := b9.size
 replace hw := hw.trans (b9.mono hw.size)
 replace f2 := f2.u b9
 replace f1 := f1.u b9
 refine wl_call rfl (C_f3Open _ hc) ?_
 rintro v10 w10 ⟨rfl, b10⟩
 have s10 := b10.size
 replace hw := hw.trans (b10.mono hw.size)
 replace f1 := f1.u b10
 replace f2 := f2.u b10
 refine zp (o_bldFr rfl rfl rfl) ?_
 refine wl_stFr rfl f2 rfl (by rfl) ?_
 rintro w_1 f g e
 have s := g.size
 replace hw := hw.trans (below_of_grownBy g.g hw.size (by omega))
 replace f1 := f1.k g.g (ap_some (by omega))
 clear f2
 refine wl_nild ?_
 refine ret_cell rfl rfl Tryz.isAgg177 Tryz.sizeOf177 (by assumption) (by first | exact vI10 | exact b32 | exact ptC_len _ | exact frC_len _ | rfl) ?_
 exact ⟨by rw [hr2], hw⟩
set_option maxRecDepth 100000 in
theorem C_f5near {p : Fr3} {r : Pt} (w : World) (hr : nearS p = r) :
  CallsR Tryz.prog 152 [.agg (frC p).toArray] w fun v w' => v = .agg (ptC r).toArray ∧ Below w.heap.size w w' := by
 obtain ⟨z, hz⟩ : ∃ q, closeS p.2.2 = q := ⟨_, rfl⟩
 obtain ⟨i, hi⟩ : ∃ q, invS z = q := ⟨_, rfl⟩
 obtain ⟨a, ha⟩ : ∃ q, closeS p.1 = q := ⟨_, rfl⟩
 obtain ⟨b, hb⟩ : ∃ q, closeS p.2.1 = q := ⟨_, rfl⟩
 obtain ⟨c, hc⟩ : ∃ q, mulS a i = q := ⟨_, rfl⟩
 obtain ⟨d, hd⟩ : ∃ q, mulS b i = q := ⟨_, rfl⟩
 have hr2 : r = (c, d) := by rw [← hr, ← hc, ← hd, ← hb, ← ha, ← hi, ← hz]; rfl
 clear hr
 refine callsR Tryz.func152 rfl rfl (by kernel_rfl) rfl ?_
 have hw := Below.refl w.heap.size w
 refine zs ?_
 refine wl_boxg _ rfl (by rfl) ?_
 rintro g1 w1 f1 b1 i1 i1_1
 have s1 := b1.size
 replace hw := hw.trans (b1.mono hw.size)
 refine wl_allocg [_, _, _, _, _, _, _, _, _, _, _, _, _, _, _, _, _, _, _, _, _, _, _, _, _, _, _, _, _, _, _, _, _, _, _, _, _, _, _, _, _, _, _, _, _, _, _, _, _, _, _, _, _, _, _, _, _, _, _, _, _, _, _, _] Tryz.zeroValue110 (by rfl) ?_
 rintro g2 w2 f2 b2 i2 i2_1
 have s2 := b2.size
 replace hw := hw.trans (b2.mono hw.size)
 replace f1 := f1.u b2
 refine wl_nil (zs ?_)
 refine zp (o_faddr (s := 177) (i := 2) (off := 20) Tryz.underlying177 rfl Tryz.sizeOf173 rfl rfl rfl) ?_
 refine wl_r (o_ldFrZ rfl f1) ?_
 refine wl_call rfl (C_f3Close _ hz) ?_
 rintro v6 w6 ⟨rfl, b6⟩
 have s6 := b6.size
 replace hw := hw.trans (b6.mono hw.size)
 replace f1 := f1.u b6
 replace f2 := f2.u b6
 refine wl_call rfl (C_f3Inv _ hi) ?_
 rintro v7 w7 ⟨rfl, b7⟩
 have s7 := b7.size
 replace hw := hw.trans (b7.mono hw.size)
 replace f2 := f2.u b7
 replace f1 := f1.u b7
 refine wl_allocB Tryz.underlying108 Tryz.zeroValue108 (by rfl) ?_
 rintro g3 w3 f3 b3 i3 i3_1
 have s3 := b3.size
 replace hw := hw.trans (b3.mono hw.size)
 replace f1 := f1.u b3
 replace f2 := f2.u b3
 refine wl_stBa Tryz.sizeOf108 rfl f3 rfl (by omega) (by rfl) ?_
 rintro w_1 f g e
 have s := g.size
 replace hw := hw.trans (below_of_grownBy g.g hw.size (by omega))
 replace f2 := f2.k g.g (ap_some (by omega))
 replace f1 := f1.k g.g (ap_some (by omega))
 clear f3
 refine wl_nil (rk_seq ?_)
 refine rk_drawo (id := 2) (none) [0, 1, 2, 0, 12, 0, 32, 80, 0, 384, 528, 2047] [0, 1, 3, 0, 15, 0, 32, 127, 0, 511, 1023, 2047] 2708 148 [0, 1, 3, 5, 6, 8, 2, 4, 7, 9, 10, 11] [(.p, 0), (.r, 1), (.s, 3), (.p, 5), (.s, 6), (.s, 8), (.c, 2), (.c, 4), (.c, 7), (.l, 9), (.p, 10), (.l, 11)] (by kernel_rfl) (by kernel_rfl) (by kernel_rfl) (by kernel_rfl) (by kernel_rfl) ?_
 dsimp only [inOrder, nthOp]
 replace hw := hw.drew
 replace f1 := f1.d
 replace f2 := f2.d
 replace f := f.d
 refine zp (o_faddr (s := 177) (i := 0) (off := 0) Tryz.underlying177 rfl Tryz.sizeOf173 rfl rfl rfl) ?_
 refine wl_r (o_ldFrX rfl f1) ?_
 refine wl_s (fun _ hk => (o_ldBa Tryz.isAgg108 Tryz.sizeOf108 rfl (f.u (below_of_grown_none hk)) (by omega))) ?_
 refine zp (o_faddr (s := 177) (i := 1) (off := 10) Tryz.underlying177 rfl Tryz.sizeOf173 rfl rfl rfl) ?_
 refine wl_s (fun _ hk => (o_ldFrY rfl (f1.u (below_of_grown_none hk)))) ?_
 refine wl_s (fun _ hk => (o_ldBa Tryz.isAgg108 Tryz.sizeOf108 rfl (f.u (below_of_grown_none hk)) (by omega))) ?_
 refine wl_call rfl (C_f3Close _ ha) ?_ (hq := .inr fun _ _ h => grown_of_below h.2 _)
 rintro v10 w10 ⟨rfl, b10⟩
 simp only [drew_size] at b10
 have s10 := b10.size
 simp only [drew_size] at s10
 replace hw := hw.trans (b10.mono hw.size)
 replace f := f.u b10
 replace f2 := f2.u b10
 replace f1 := f1.u b10
 refine wl_call rfl (C_f3Mul _ hc) ?_ (hq := .inr fun _ _ h => grown_of_below h.2 _)
 rintro v12 w12 ⟨rfl, b12⟩
 have s12 := b12.size
 replace hw := hw.trans (b12.mono hw.size)
 replace f1 := f1.u b12
 replace f2 := f2.u b12
 replace f := f.u b12
 refine wl_call rfl (C_f3Close _ hb) ?_ (hq := .inr fun _ _ h => grown_of_below h.2 _)
 rintro v15 w15 ⟨rfl, b15⟩
 have s15 := b15.size
 replace hw := hw.trans (b15.mono hw.size)
 replace f := f.u b15
 replace f2 := f2.u b15
 replace f1 := f1.u b15
 refine wl_call rfl (C_f3Mul _ hd) ?_
 rintro v17 w17 ⟨rfl, b17⟩
 have s17 := b17.size
 replace hw := hw.trans (b17.mono hw.size)
 replace f1 := f1.u b17
 replace f2 := f2.u b17
 replace f := f.u b17
 refine zp (o_bldPt rfl rfl) ?_
 refine wl_stPt rfl f2 rfl (by rfl) ?_
 rintro w_2 f_1 g_1 e_1
 have s_1 := g_1.size
 replace hw := hw.trans (below_of_grownBy g_1.g hw.size (by omega))
 replace f := f.k g_1.g (ap_some (by omega))
 replace f1 := f1.k g_1.g (ap_some (by omega))
 clear f2
 refine wl_nild ?_
 refine ret_cell rfl rfl Tryz.isAgg110 Tryz.sizeOf110 (by assumption) (by first | exact vI10 | exact b32 | exact ptC_len _ | exact frC_len _ | rfl) ?_
 exact ⟨by rw [hr2], hw⟩
end Go.Proofs.YtahkeoegbjopfaaGreat
namespace Go.Proofs.YtahkeoegbjopfaaGreat
set_option maxRecDepth 100000
open Go.RowKit
attribute [local irreducible] carryS openS closeS plusS minusS timesS powerS ofS shiftedS restS subS negS mulS powS invS rootS crRoot awayS nearS fplus
set_option maxRecDepth 100000 in
set_option maxHeartbeats 1000000 in
theorem C_f5root {y : N32} {q : N32 × Bool} (w : World) (hr : crRoot y = q) :
  CallsR Tryz.prog 116 [.agg (B8 y.1).toArray] w fun v w' => v = .tuple #[.agg (B8 q.1.1).toArray, .bool q.2] ∧ Below w.heap.size w w' := by
 have hy := y.2
 obtain ⟨k1, hk1⟩ : ∃ q, ofS 1 = q := ⟨_, rfl⟩
 obtain ⟨k5, hk5⟩ : ∃ q, ofS 121665 = q := ⟨_, rfl⟩
 obtain ⟨k6, hk6⟩ : ∃ q, ofS 121666 = q := ⟨_, rfl⟩
 obtain ⟨y2, hy2⟩ : ∃ q, mulS y y = q := ⟨_, rfl⟩
 obtain ⟨s1, hs1⟩ : ∃ q, subS y2 k1 = q := ⟨_, rfl⟩
 obtain ⟨u, hu⟩ : ∃ q, mulS k6 s1 = q := ⟨_, rfl⟩
 obtain ⟨m1, hm1⟩ : ∃ q, mulS k5 y2 = q := ⟨_, rfl⟩
 obtain ⟨d, hd⟩ : ∃ q, subS k6 m1 = q := ⟨_, rfl⟩
 obtain ⟨i, hi⟩ : ∃ q, invS d = q := ⟨_, rfl⟩
 obtain ⟨x, hx⟩ : ∃ q, mulS u i = q := ⟨_, rfl⟩
 have hq1 := q.1.2
 have hR : rootS x = q := by rw [← hr, ← hx, ← hi, ← hd, ← hm1, ← hu, ← hs1, ← hy2, ← hk1, ← hk5, ← hk6]; unfold crRoot rtU rtD; rfl
 clear hr
 refine callsR Tryz.func116 rfl rfl (by kernel_rfl) rfl ?_
 have hw := Below.refl w.heap.size w
 refine zs ?_
 refine wl_boxg _ rfl (by rfl) ?_
 rintro g1 w1 f1 b1 i1 i1_1
 have s1_1 := b1.size
 replace hw := hw.trans (b1.mono hw.size)
 refine wl_allocB Tryz.underlying108 Tryz.zeroValue108 (by rfl) ?_
 rintro g2 w2 f2 b2 i2 i2_1
 have s2 := b2.size
 replace hw := hw.trans (b2.mono hw.size)
 replace f1 := f1.u b2
 refine za rfl (wl_nil (zs ?_))
 refine wl_r (o_ldBa Tryz.isAgg108 Tryz.sizeOf108 rfl f1 hy) ?_
 refine wl_r (o_ldBa Tryz.isAgg108 Tryz.sizeOf108 rfl f1 hy) ?_
 refine wl_call rfl (C_f3Mul _ hy2) ?_
 rintro v9 w9 ⟨rfl, b9⟩
 have s9 := b9.size
 replace hw := hw.trans (b9.mono hw.size)
 replace f1 := f1.u b9
 replace f2 := f2.u b9
 refine wl_allocB Tryz.underlying108 Tryz.zeroValue108 (by rfl) ?_
 rintro g4 w4 f4 b4 i4 i4_1
 have s4 := b4.size
 replace hw := hw.trans (b4.mono hw.size)
 replace f2 := f2.u b4
 replace f1 := f1.u b4
 refine wl_stBa Tryz.sizeOf108 rfl f4 rfl (by omega) (by rfl) ?_
 rintro w_1 f g e
 have s := g.size
 replace hw := hw.trans (below_of_grownBy g.g hw.size (by omega))
 replace f1 := f1.k g.g (ap_some (by omega))
 replace f2 := f2.k g.g (ap_some (by omega))
 clear f4
 refine wl_nil (rk_seq ?_)
 refine rk_drawo (id := 2) (none) [0, 0, 1, 6, 9, 0, 63] [0, 0, 1, 7, 15, 0, 63] 125 37 [1] [(.s, 1), (.f 2 125 37, 6)] (by kernel_rfl) (by kernel_rfl) (by kernel_rfl) (by kernel_rfl) (by kernel_rfl) ?_
 dsimp only [inOrder, nthOp]
 replace hw := hw.drew
 replace f2 := f2.d
 replace f1 := f1.d
 replace f := f.d
 refine wl_s (fun _ hk => (o_ldBa Tryz.isAgg108 Tryz.sizeOf108 rfl (f.u (below_of_grown_none hk)) (by omega))) ?_
 refine wl_conc [⟨0, [], [10], [], fun vs w' lo hi => vs = [.agg (B8 k6.1).toArray]⟩, ⟨2, [], [12], [0], fun vs w' lo hi => vs = [.agg (B8 k1.1).toArray]⟩, ⟨3, [], [13], [0, 1], fun vs w' lo hi => vs = [.agg (B8 s1.1).toArray]⟩, ⟨4, [], [14], [0, 1, 2], fun vs w' lo hi => vs = [.agg (B8 u.1).toArray]⟩, ⟨5, [], [5], [], fun vs w' lo hi => ∃ (g5 : Nat), vs = [.pointer (some ⟨g5, 0, none⟩)] ∧ Blk w' g5 108 (B8 (List.replicate 32 0)) ∧ lo ≤ g5 ∧ g5 < hi⟩] [0, 1, 2, 3, 4] [0, 0, 1, 6, 9, 0, 63] [0, 0, 1, 7, 15, 0, 63] [6] [(.l, 6)] (by kernel_rfl) (by kernel_rfl) (by kernel_rfl) (by kernel_rfl) ⟨fun _ _ _ _ _ h _ => h, fun _ _ _ _ _ h _ => h, fun _ _ _ _ _ h _ => h, fun _ _ _ _ _ h _ => h, fun _ _ _ _ _ h hb => by obtain ⟨g5, e0, g0, g1, g2⟩ := h; exact ⟨g5, e0, g0.u hb, g1, g2⟩, trivial⟩ ⟨?_, ?_, ?_, ?_, ?_, trivial⟩ ?_
 ·intro wI hbI fo T T2 n2
  intro hk
  dsimp only [Item.idx, inOrder, nthOp, List.map, List.zip_cons_cons, List.zip_nil_right, List.cons_append, List.nil_append]
  have shbI := hbI.size
  simp only [drew_size] at shbI
  replace hw := hw.trans (hbI.mono hw.size)
  replace f := f.u hbI
  replace f1 := f1.u hbI
  replace f2 := f2.u hbI
  have hw1 := Below.refl wI.heap.size wI
  refine wl_call rfl (C_f3Of _ hk6) ?_ (hq := .inr fun _ _ h => grown_of_below h.2 _)
  rintro v10 w10 ⟨rfl, b10⟩
  have s10 := b10.size
  replace hw := hw.trans (b10.mono hw.size)
  replace hw1 := hw1.trans (b10.mono hw1.size)
  replace f2 := f2.u b10
  replace f1 := f1.u b10
  replace f := f.u b10
  exact hk [_] _ rfl hw1
 ·intro wI hbI fo T T2 n2
  rintro _ lo0 hi0 ⟨rfl⟩ ql0 qm0 qh0 -
  try dsimp only at ql0 qm0 qh0 
  try simp only [drew_size] at ql0 qm0 qh0 
  intro hk
  dsimp only [Item.idx, inOrder, nthOp, List.map, List.zip_cons_cons, List.zip_nil_right, List.cons_append, List.nil_append]
  have shbI := hbI.size
  simp only [drew_size] at shbI
  replace hw := hw.trans (hbI.mono hw.size)
  replace f := f.u hbI
  replace f1 := f1.u hbI
  replace f2 := f2.u hbI
  have hw1 := Below.refl wI.heap.size wI
  refine wl_call rfl (C_f3Of _ hk1) ?_ (hq := .inr fun _ _ h => grown_of_below h.2 _)
  rintro v12 w12 ⟨rfl, b12⟩
  have s12 := b12.size
  replace hw := hw.trans (b12.mono hw.size)
  replace hw1 := hw1.trans (b12.mono hw1.size)
  replace f2 := f2.u b12
  replace f1 := f1.u b12
  replace f := f.u b12
  exact hk [_] _ rfl hw1
 ·intro wI hbI fo T T2 n2
  rintro _ lo0 hi0 ⟨rfl⟩ ql0 qm0 qh0 -
  rintro _ lo1 hi1 ⟨rfl⟩ ql1 qm1 qh1 ⟨qa1_0, -⟩
  try dsimp only at ql0 qm0 qh0  ql1 qm1 qh1 qa1_0
  try simp only [drew_size] at ql0 qm0 qh0  ql1 qm1 qh1 qa1_0
  intro hk
  dsimp only [Item.idx, inOrder, nthOp, List.map, List.zip_cons_cons, List.zip_nil_right, List.cons_append, List.nil_append]
  have shbI := hbI.size
  simp only [drew_size] at shbI
  replace hw := hw.trans (hbI.mono hw.size)
  replace f := f.u hbI
  replace f1 := f1.u hbI
  replace f2 := f2.u hbI
  have hw1 := Below.refl wI.heap.size wI
  refine wl_call rfl (C_f3Sub _ hs1) ?_
  rintro v13 w13 ⟨rfl, b13⟩
  have s13 := b13.size
  replace hw := hw.trans (b13.mono hw.size)
  replace hw1 := hw1.trans (b13.mono hw1.size)
  replace f2 := f2.u b13
  replace f1 := f1.u b13
  replace f := f.u b13
  exact hk [_] _ rfl hw1
 ·intro wI hbI fo T T2 n2
  rintro _ lo0 hi0 ⟨rfl⟩ ql0 qm0 qh0 -
  rintro _ lo1 hi1 ⟨rfl⟩ ql1 qm1 qh1 ⟨qa1_0, -⟩
  rintro _ lo2 hi2 ⟨rfl⟩ ql2 qm2 qh2 ⟨qa2_1, qa2_0, -⟩
  try dsimp only at ql0 qm0 qh0  ql1 qm1 qh1 qa1_0 ql2 qm2 qh2 qa2_0 qa2_1
  try simp only [drew_size] at ql0 qm0 qh0  ql1 qm1 qh1 qa1_0 ql2 qm2 qh2 qa2_0 qa2_1
  intro hk
  dsimp only [Item.idx, inOrder, nthOp, List.map, List.zip_cons_cons, List.zip_nil_right, List.cons_append, List.nil_append]
  have shbI := hbI.size
  simp only [drew_size] at shbI
  replace hw := hw.trans (hbI.mono hw.size)
  replace f := f.u hbI
  replace f1 := f1.u hbI
  replace f2 := f2.u hbI
  have hw1 := Below.refl wI.heap.size wI
  refine wl_call rfl (C_f3Mul _ hu) ?_
  rintro v14 w14 ⟨rfl, b14⟩
  have s14 := b14.size
  replace hw := hw.trans (b14.mono hw.size)
  replace hw1 := hw1.trans (b14.mono hw1.size)
  replace f2 := f2.u b14
  replace f1 := f1.u b14
  replace f := f.u b14
  exact hk [_] _ rfl hw1
 ·intro wI hbI fo T T2 n2
  intro hk
  dsimp only [Item.idx, inOrder, nthOp, List.map, List.zip_cons_cons, List.zip_nil_right, List.cons_append, List.nil_append]
  have shbI := hbI.size
  simp only [drew_size] at shbI
  replace hw := hw.trans (hbI.mono hw.size)
  replace f := f.u hbI
  replace f1 := f1.u hbI
  replace f2 := f2.u hbI
  have hw1 := Below.refl wI.heap.size wI
  refine wl_allocB Tryz.underlying108 Tryz.zeroValue108 (by rfl) ?_
  rintro g5 w5 f5 b5 i5 i5_1
  have s5 := b5.size
  replace hw := hw.trans (b5.mono hw.size)
  replace hw1 := hw1.trans (b5.mono hw1.size)
  replace f2 := f2.u b5
  replace f1 := f1.u b5
  replace f := f.u b5
  exact hk [_] _ ⟨_, rfl, f5, by omega, by omega⟩ hw1
 intro wE hbE
 rintro _ lo0 hi0 ⟨rfl⟩ ql0 qm0 qh0 -
 rintro _ lo1 hi1 ⟨rfl⟩ ql1 qm1 qh1 ⟨qa1_0, -⟩
 rintro _ lo2 hi2 ⟨rfl⟩ ql2 qm2 qh2 ⟨qa2_1, qa2_0, -⟩
 rintro _ lo3 hi3 ⟨rfl⟩ ql3 qm3 qh3 ⟨qa3_2, qa3_1, qa3_0, -⟩
 rintro _ lo4 hi4 ⟨g5, rfl, f5, f5_1, f5_2⟩ ql4 qm4 qh4 ⟨qa4_3, qa4_2, qa4_1, qa4_0, -⟩
 try dsimp only at ql0 qm0 qh0  ql1 qm1 qh1 qa1_0 ql2 qm2 qh2 qa2_0 qa2_1 ql3 qm3 qh3 qa3_0 qa3_1 qa3_2 ql4 qm4 qh4 qa4_0 qa4_1 qa4_2 qa4_3
 try simp only [drew_size] at ql0 qm0 qh0  ql1 qm1 qh1 qa1_0 ql2 qm2 qh2 qa2_0 qa2_1 ql3 qm3 qh3 qa3_0 qa3_1 qa3_2 ql4 qm4 qh4 qa4_0 qa4_1 qa4_2 qa4_3
 dsimp only [given, Item.idx, inOrder, nthOp, List.map, List.zip_cons_cons, List.zip_nil_right]
 have shbE := hbE.size
 simp only [drew_size] at shbE
 replace hw := hw.trans (hbE.mono hw.size)
 replace f := f.u hbE
 replace f1 := f1.u hbE
 replace f2 := f2.u hbE
 refine wl_stBa Tryz.sizeOf108 rfl f5 rfl (by omega) (by rfl) ?_
 rintro w_2 f_1 g_1 e_1
 have s_1 := g_1.size
 replace hw := hw.trans (below_of_grownBy g_1.g hw.size (by omega))
 replace f2 := f2.k g_1.g (ap_some (by omega))
 replace f1 := f1.k g_1.g (ap_some (by omega))
 replace f := f.k g_1.g (ap_some (by omega))
 clear f5
 refine wl_nild ?_
 refine rk_seq ?_
 refine rk_drawo (id := 3) (none) [0, 1, 0, 6, 9, 0, 63] [0, 1, 0, 7, 15, 0, 63] 123 35 [2] [(.s, 2), (.f 4 123 35, 6)] (by kernel_rfl) (by kernel_rfl) (by kernel_rfl) (by kernel_rfl) (by kernel_rfl) ?_
 dsimp only [inOrder, nthOp]
 replace hw := hw.drew
 replace f := f.d
 replace f1 := f1.d
 replace f2 := f2.d
 replace f_1 := f_1.d
 refine wl_s (fun _ hk => (o_ldBa Tryz.isAgg108 Tryz.sizeOf108 rfl (f.u (below_of_grown_none hk)) (by omega))) ?_
 refine wl_conc [⟨0, [], [15], [], fun vs w' lo hi => vs = [.agg (B8 k6.1).toArray]⟩, ⟨1, [], [16], [0], fun vs w' lo hi => vs = [.agg (B8 k5.1).toArray]⟩, ⟨3, [], [18], [0, 1], fun vs w' lo hi => vs = [.agg (B8 m1.1).toArray]⟩, ⟨4, [], [19], [0, 1, 2], fun vs w' lo hi => vs = [.agg (B8 d.1).toArray]⟩, ⟨5, [], [6], [], fun vs w' lo hi => ∃ (g6 : Nat), vs = [.pointer (some ⟨g6, 0, none⟩)] ∧ Blk w' g6 108 (B8 (List.replicate 32 0)) ∧ lo ≤ g6 ∧ g6 < hi⟩] [0, 1, 2, 3, 4] [0, 1, 0, 6, 9, 0, 63] [0, 1, 0, 7, 15, 0, 63] [6] [(.l, 6)] (by kernel_rfl) (by kernel_rfl) (by kernel_rfl) (by kernel_rfl) ⟨fun _ _ _ _ _ h _ => h, fun _ _ _ _ _ h _ => h, fun _ _ _ _ _ h _ => h, fun _ _ _ _ _ h _ => h, fun _ _ _ _ _ h hb => by obtain ⟨g6, e0, g0, g1, g2⟩ := h; exact ⟨g6, e0, g0.u hb, g1, g2⟩, trivial⟩ ⟨?_, ?_, ?_, ?_, ?_, trivial⟩ ?_
 ·intro wI hbI fo T T2 n2
  intro hk
  dsimp only [Item.idx, inOrder, nthOp, List.map, List.zip_cons_cons, List.zip_nil_right, List.cons_append, List.nil_append]
  have shbI := hbI.size
  simp only [drew_size] at shbI
  replace hw := hw.trans (hbI.mono hw.size)
  replace f_1 := f_1.u hbI
  replace f2 := f2.u hbI
  replace f1 := f1.u hbI
  replace f := f.u hbI
  have hw1 := Below.refl wI.heap.size wI
  refine wl_call rfl (C_f3Of _ hk6) ?_ (hq := .inr fun _ _ h => grown_of_below h.2 _)
  rintro v15 w15 ⟨rfl, b15⟩
  have s15 := b15.size
  replace hw := hw.trans (b15.mono hw.size)
  replace hw1 := hw1.trans (b15.mono hw1.size)
  replace f := f.u b15
  replace f1 := f1.u b15
  replace f2 := f2.u b15
  replace f_1 := f_1.u b15
  exact hk [_] _ rfl hw1
 ·intro wI hbI fo T T2 n2
  rintro _ lo0 hi0 ⟨rfl⟩ ql0 qm0 qh0 -
  try dsimp only at ql0 qm0 qh0 
  try simp only [drew_size] at ql0 qm0 qh0 
  intro hk
  dsimp only [Item.idx, inOrder, nthOp, List.map, List.zip_cons_cons, List.zip_nil_right, List.cons_append, List.nil_append]
  have shbI := hbI.size
  simp only [drew_size] at shbI
  replace hw := hw.trans (hbI.mono hw.size)
  replace f_1 := f_1.u hbI
  replace f2 := f2.u hbI
  replace f1 := f1.u hbI
  replace f := f.u hbI
  have hw1 := Below.refl wI.heap.size wI
  refine wl_call rfl (C_f3Of _ hk5) ?_ (hq := .inr fun _ _ h => grown_of_below h.2 _)
  rintro v16 w16 ⟨rfl, b16⟩
  have s16 := b16.size
  replace hw := hw.trans (b16.mono hw.size)
  replace hw1 := hw1.trans (b16.mono hw1.size)
  replace f := f.u b16
  replace f1 := f1.u b16
  replace f2 := f2.u b16
  replace f_1 := f_1.u b16
  exact hk [_] _ rfl hw1
 ·intro wI hbI fo T T2 n2
  rintro _ lo0 hi0 ⟨rfl⟩ ql0 qm0 qh0 -
  rintro _ lo1 hi1 ⟨rfl⟩ ql1 qm1 qh1 ⟨qa1_0, -⟩
  try dsimp only at ql0 qm0 qh0  ql1 qm1 qh1 qa1_0
  try simp only [drew_size] at ql0 qm0 qh0  ql1 qm1 qh1 qa1_0
  intro hk
  dsimp only [Item.idx, inOrder, nthOp, List.map, List.zip_cons_cons, List.zip_nil_right, List.cons_append, List.nil_append]
  have shbI := hbI.size
  simp only [drew_size] at shbI
  replace hw := hw.trans (hbI.mono hw.size)
  replace f_1 := f_1.u hbI
  replace f2 := f2.u hbI
  replace f1 := f1.u hbI
  replace f := f.u hbI
  have hw1 := Below.refl wI.heap.size wI
  refine wl_call rfl (C_f3Mul _ hm1) ?_
  rintro v18 w18 ⟨rfl, b18⟩
  have s18 := b18.size
  replace hw := hw.trans (b18.mono hw.size)
  replace hw1 := hw1.trans (b18.mono hw1.size)
  replace f := f.u b18
  replace f1 := f1.u b18
  replace f2 := f2.u b18
  replace f_1 := f_1.u b18
  exact hk [_] _ rfl hw1
 ·intro wI hbI fo T T2 n2
  rintro _ lo0 hi0 ⟨rfl⟩ ql0 qm0 qh0 -
  rintro _ lo1 hi1 ⟨rfl⟩ ql1 qm1 qh1 ⟨qa1_0, -⟩
  rintro _ lo2 hi2 ⟨rfl⟩ ql2 qm2 qh2 ⟨qa2_1, qa2_0, -⟩
  try dsimp only at ql0 qm0 qh0  ql1 qm1 qh1 qa1_0 ql2 qm2 qh2 qa2_0 qa2_1
  try simp only [drew_size] at ql0 qm0 qh0  ql1 qm1 qh1 qa1_0 ql2 qm2 qh2 qa2_0 qa2_1
  intro hk
  dsimp only [Item.idx, inOrder, nthOp, List.map, List.zip_cons_cons, List.zip_nil_right, List.cons_append, List.nil_append]
  have shbI := hbI.size
  simp only [drew_size] at shbI
  replace hw := hw.trans (hbI.mono hw.size)
  replace f_1 := f_1.u hbI
  replace f2 := f2.u hbI
  replace f1 := f1.u hbI
  replace f := f.u hbI
  have hw1 := Below.refl wI.heap.size wI
  refine wl_call rfl (C_f3Sub _ hd) ?_
  rintro v19 w19 ⟨rfl, b19⟩
  have s19 := b19.size
  replace hw := hw.trans (b19.mono hw.size)
  replace hw1 := hw1.trans (b19.mono hw1.size)
  replace f := f.u b19
  replace f1 := f1.u b19
  replace f2 := f2.u b19
  replace f_1 := f_1.u b19
  exact hk [_] _ rfl hw1
 ·intro wI hbI fo T T2 n2
  intro hk
  dsimp only [Item.idx, inOrder, nthOp, List.map, List.zip_cons_cons, List.zip_nil_right, List.cons_append, List.nil_append]
  have shbI := hbI.size
  simp only [drew_size] at shbI
  replace hw := hw.trans (hbI.mono hw.size)
  replace f_1 := f_1.u hbI
  replace f2 := f2.u hbI
  replace f1 := f1.u hbI
  replace f := f.u hbI
  have hw1 := Below.refl wI.heap.size wI
  refine wl_allocB Tryz.underlying108 Tryz.zeroValue108 (by rfl) ?_
  rintro g6 w6 f6 b6 i6 i6_1
  have s6 := b6.size
  replace hw := hw.trans (b6.mono hw.size)
  replace hw1 := hw1.trans (b6.mono hw1.size)
  replace f := f.u b6
  replace f1 := f1.u b6
  replace f2 := f2.u b6
  replace f_1 := f_1.u b6
  exact hk [_] _ ⟨_, rfl, f6, by omega, by omega⟩ hw1
 intro wE hbE
 rintro _ lo0 hi0 ⟨rfl⟩ ql0 qm0 qh0 -
 rintro _ lo1 hi1 ⟨rfl⟩ ql1 qm1 qh1 ⟨qa1_0, -⟩
 rintro _ lo2 hi2 ⟨rfl⟩ ql2 qm2 qh2 ⟨qa2_1, qa2_0, -⟩
 rintro _ lo3 hi3 ⟨rfl⟩ ql3 qm3 qh3 ⟨qa3_2, qa3_1, qa3_0, -⟩
 rintro _ lo4 hi4 ⟨g6, rfl, f6, f6_1, f6_2⟩ ql4 qm4 qh4 ⟨qa4_3, qa4_2, qa4_1, qa4_0, -⟩
 try dsimp only at ql0 qm0 qh0  ql1 qm1 qh1 qa1_0 ql2 qm2 qh2 qa2_0 qa2_1 ql3 qm3 qh3 qa3_0 qa3_1 qa3_2 ql4 qm4 qh4 qa4_0 qa4_1 qa4_2 qa4_3
 try simp only [drew_size] at ql0 qm0 qh0  ql1 qm1 qh1 qa1_0 ql2 qm2 qh2 qa2_0 qa2_1 ql3 qm3 qh3 qa3_0 qa3_1 qa3_2 ql4 qm4 qh4 qa4_0 qa4_1 qa4_2 qa4_3
 dsimp only [given, Item.idx, inOrder, nthOp, List.map, List.zip_cons_cons, List.zip_nil_right]
 have shbE_1 := hbE.size
 simp only [drew_size] at shbE_1
 replace hw := hw.trans (hbE.mono hw.size)
 replace f_1 := f_1.u hbE
 replace f2 := f2.u hbE
 replace f1 := f1.u hbE
 replace f := f.u hbE
 refine wl_stBa Tryz.sizeOf108 rfl f6 rfl (by omega) (by rfl) ?_
 rintro w_3 f_2 g_2 e_2
 have s_2 := g_2.size
 replace hw := hw.trans (below_of_grownBy g_2.g hw.size (by omega))
 replace f := f.k g_2.g (ap_some (by omega))
 replace f1 := f1.k g_2.g (ap_some (by omega))
 replace f2 := f2.k g_2.g (ap_some (by omega))
 replace f_1 := f_1.k g_2.g (ap_some (by omega))
 clear f6
 refine wl_nild ?_
 refine rk_seq ?_
 refine rk_draw (id := 4) (none) [0, 0, 2, 5, 8, 16, 16, 127, 255] [0, 0, 2, 7, 15, 31, 31, 127, 255] 156 4 [(.s, 0), (.r, 1), (.c, 2), (.l, 3), (.l, 4), (.p, 5), (.p, 6), (.l, 7), (.p, 8)] (by kernel_rfl) (by kernel_rfl) (by kernel_rfl) (by kernel_rfl) (by kernel_rfl) ?_
 replace hw := hw.drew
 replace f_1 := f_1.d
 replace f2 := f2.d
 replace f1 := f1.d
 replace f := f.d
 replace f_2 := f_2.d
 refine wl_s (fun _ hk => (o_ldBa Tryz.isAgg108 Tryz.sizeOf108 rfl (f_1.u (below_of_grown_none hk)) (by omega))) ?_
 refine wl_r (o_ldBa Tryz.isAgg108 Tryz.sizeOf108 rfl f_2 (by omega)) ?_
 refine wl_call rfl (C_f3Inv _ hi) ?_ (hq := .inr fun _ _ h => grown_of_below h.2 _)
 rintro v22 w22 ⟨rfl, b22⟩
 simp only [drew_size] at b22
 have s22 := b22.size
 simp only [drew_size] at s22
 replace hw := hw.trans (b22.mono hw.size)
 replace f_2 := f_2.u b22
 replace f := f.u b22
 replace f1 := f1.u b22
 replace f2 := f2.u b22
 replace f_1 := f_1.u b22
 refine wl_call rfl (C_f3Mul _ hx) ?_
 rintro v23 w23 ⟨rfl, b23⟩
 have s23 := b23.size
 replace hw := hw.trans (b23.mono hw.size)
 replace f_1 := f_1.u b23
 replace f2 := f2.u b23
 replace f1 := f1.u b23
 replace f := f.u b23
 replace f_2 := f_2.u b23
 refine wl_call rfl (C_f3Root _ hR) ?_
 rintro v24 w24 ⟨rfl, b24⟩
 have s24 := b24.size
 replace hw := hw.trans (b24.mono hw.size)
 replace f_2 := f_2.u b24
 replace f := f.u b24
 replace f1 := f1.u b24
 replace f2 := f2.u b24
 replace f_1 := f_1.u b24
 refine zp (o_ext20 rfl) ?_
 refine zp (o_ext21 rfl) ?_
 refine wl_stBa Tryz.sizeOf108 rfl f2 rfl hq1 (by rfl) ?_
 rintro w_4 f_3 g_3 e_3
 have s_3 := g_3.size
 replace hw := hw.trans (below_of_grownBy g_3.g hw.size (by omega))
 replace f_1 := f_1.k g_3.g (ap_some (by omega))
 replace f1 := f1.k g_3.g (ap_some (by omega))
 replace f := f.k g_3.g (ap_some (by omega))
 replace f_2 := f_2.k g_3.g (ap_some (by omega))
 clear f2
 refine za rfl ?_
 refine wl_nild ?_
 refine ret_any rfl (.cell rfl Tryz.isAgg108 Tryz.sizeOf108 (by assumption) (by first | exact vI10 | exact b32 | exact ptC_len _ | exact frC_len _ | rfl) <| .tmp rfl <| .nil) (by simp) ?_
 exact ⟨rfl, hw⟩
set_option maxRecDepth 100000 in
theorem C_f5Base {r : Pt} (w : World) (hr : baseS = r) :
  CallsR Tryz.prog 61 [] w fun v w' => v = .agg (ptC r).toArray ∧ Below w.heap.size w w' := by
 obtain ⟨k4, hk4⟩ : ∃ q, ofS 4 = q := ⟨_, rfl⟩
 obtain ⟨k5, hk5⟩ : ∃ q, ofS 5 = q := ⟨_, rfl⟩
 obtain ⟨i, hi⟩ : ∃ q, invS k5 = q := ⟨_, rfl⟩
 obtain ⟨y, hy⟩ : ∃ q, mulS k4 i = q := ⟨_, rfl⟩
 obtain ⟨x, hx⟩ : ∃ q, crRoot y = q := ⟨_, rfl⟩
 have hx1 := x.1.2
 have hr2 : r = (x.1, y) := by
  have e : baseY = y := by rw [← hy, ← hi, ← hk4, ← hk5]; rfl
  rw [← hr]; unfold baseS; rw [e, hx]
 clear hr
 refine callsR Tryz.func61 rfl rfl (by kernel_rfl) rfl ?_
 have hw := Below.refl w.heap.size w
 refine zs ?_
 refine wl_allocg [_, _, _, _, _, _, _, _, _, _, _, _, _, _, _, _, _, _, _, _, _, _, _, _, _, _, _, _, _, _, _, _, _, _, _, _, _, _, _, _, _, _, _, _, _, _, _, _, _, _, _, _, _, _, _, _, _, _, _, _, _, _, _, _] Tryz.zeroValue110 (by rfl) ?_
 rintro g0 w0 f0 b0 i0 i0_1
 have s0 := b0.size
 replace hw := hw.trans (b0.mono hw.size)
 refine wl_nil (zs ?_)
 refine wl_call rfl (C_f3Of _ hk4) ?_
 rintro v4 w4 ⟨rfl, b4⟩
 have s4 := b4.size
 replace hw := hw.trans (b4.mono hw.size)
 replace f0 := f0.u b4
 refine wl_call rfl (C_f3Of _ hk5) ?_
 rintro v5 w5 ⟨rfl, b5⟩
 have s5 := b5.size
 replace hw := hw.trans (b5.mono hw.size)
 replace f0 := f0.u b5
 refine wl_call rfl (C_f3Inv _ hi) ?_
 rintro v6 w6 ⟨rfl, b6⟩
 have s6 := b6.size
 replace hw := hw.trans (b6.mono hw.size)
 replace f0 := f0.u b6
 refine wl_call rfl (C_f3Mul _ hy) ?_
 rintro v7 w7 ⟨rfl, b7⟩
 have s7 := b7.size
 replace hw := hw.trans (b7.mono hw.size)
 replace f0 := f0.u b7
 refine wl_allocB Tryz.underlying108 Tryz.zeroValue108 (by rfl) ?_
 rintro g1 w1 f1 b1 i1 i1_1
 have s1 := b1.size
 replace hw := hw.trans (b1.mono hw.size)
 replace f0 := f0.u b1
 refine wl_stBa Tryz.sizeOf108 rfl f1 rfl (by omega) (by rfl) ?_
 rintro w_1 f g e
 have s := g.size
 replace hw := hw.trans (below_of_grownBy g.g hw.size (by omega))
 replace f0 := f0.k g.g (ap_some (by omega))
 clear f1
 refine wl_nil (zs ?_)
 refine wl_r (o_ldBa Tryz.isAgg108 Tryz.sizeOf108 rfl f (by omega)) ?_
 refine wl_call rfl (C_f5root _ hx) ?_
 rintro v10 w10 ⟨rfl, b10⟩
 have s10 := b10.size
 replace hw := hw.trans (b10.mono hw.size)
 replace f0 := f0.u b10
 replace f := f.u b10
 refine zm rfl ?_
 refine zp (o_ext20 rfl) ?_
 refine zp (o_ext21 rfl) ?_
 refine wl_allocB Tryz.underlying108 Tryz.zeroValue108 (by rfl) ?_
 rintro g2 w2 f2 b2 i2 i2_1
 have s2 := b2.size
 replace hw := hw.trans (b2.mono hw.size)
 replace f := f.u b2
 replace f0 := f0.u b2
 refine wl_stBa Tryz.sizeOf108 rfl f2 rfl hx1 (by rfl) ?_
 rintro w_2 f_1 g_1 e_1
 have s_1 := g_1.size
 replace hw := hw.trans (below_of_grownBy g_1.g hw.size (by omega))
 replace f0 := f0.k g_1.g (ap_some (by omega))
 replace f := f.k g_1.g (ap_some (by omega))
 clear f2
 refine za rfl (wl_nil (zs ?_))
 refine wl_r (o_ldBa Tryz.isAgg108 Tryz.sizeOf108 rfl f_1 hx1) ?_
 refine wl_r (o_ldBa Tryz.isAgg108 Tryz.sizeOf108 rfl f (by omega)) ?_
 refine zp (o_bldPt rfl rfl) ?_
 refine wl_stPt rfl f0 rfl (by rfl) ?_
 rintro w_3 f_2 g_2 e_2
 have s_2 := g_2.size
 replace hw := hw.trans (below_of_grownBy g_2.g hw.size (by omega))
 replace f := f.k g_2.g (ap_some (by omega))
 replace f_1 := f_1.k g_2.g (ap_some (by omega))
 clear f0
 refine wl_nil ?_
 refine ret_cell rfl rfl Tryz.isAgg110 Tryz.sizeOf110 (by assumption) (by first | exact vI10 | exact b32 | exact ptC_len _ | exact frC_len _ | rfl) ?_
 exact ⟨by rw [hr2], hw⟩
set_option maxRecDepth 100000 in
set_option maxHeartbeats 1000000 in
theorem C_f5Check {p : Pt} {r : Int} (w : World) (hr : ckS p = r) :
  CallsR Tryz.prog 109 [.agg (ptC p).toArray] w fun v w' => v = .int .i64 r ∧ Below w.heap.size w w' := by
 obtain ⟨k1, hk1⟩ : ∃ q, ofS 1 = q := ⟨_, rfl⟩
 obtain ⟨k5, hk5⟩ : ∃ q, ofS 121665 = q := ⟨_, rfl⟩
 obtain ⟨k6, hk6⟩ : ∃ q, ofS 121666 = q := ⟨_, rfl⟩
 obtain ⟨x2, hx2⟩ : ∃ q, mulS p.1 p.1 = q := ⟨_, rfl⟩
 obtain ⟨y2, hy2⟩ : ∃ q, mulS p.2 p.2 = q := ⟨_, rfl⟩
 obtain ⟨s1, hs1⟩ : ∃ q, subS y2 x2 = q := ⟨_, rfl⟩
 obtain ⟨s2, hs2⟩ : ∃ q, subS s1 k1 = q := ⟨_, rfl⟩
 obtain ⟨lf, hlf⟩ : ∃ q, mulS k6 s2 = q := ⟨_, rfl⟩
 obtain ⟨m1, hm1⟩ : ∃ q, mulS x2 y2 = q := ⟨_, rfl⟩
 obtain ⟨m2, hm2⟩ : ∃ q, mulS k5 m1 = q := ⟨_, rfl⟩
 obtain ⟨rg, hrg⟩ : ∃ q, negS m2 = q := ⟨_, rfl⟩
 have hr2 : r = if restS p.1 = p.1 ∧ restS p.2 = p.2 ∧ lf = rg then 0 else 2 := by
  rw [← hr]; unfold ckS ckL ckR; rw [hk1, hk5, hk6, hx2, hy2, hs1, hs2, hlf, hm1, hm2, hrg]
 clear hr
 refine callsR Tryz.func109 rfl rfl (by kernel_rfl) rfl ?_
 have hw := Below.refl w.heap.size w
 by_cases c1 : restS p.1 = p.1
 ·by_cases c2 : restS p.2 = p.2
  ·refine zs ?_
   refine wl_boxg _ rfl (by rfl) ?_
   rintro g1 w1 f1 b1 i1 i1_1
   have s1_1 := b1.size
   replace hw := hw.trans (b1.mono hw.size)
   refine za rfl (wl_nil (rk_seq (zs ?_)))
   refine zp (o_faddr (s := 110) (i := 0) (off := 0) Tryz.underlying110 rfl Tryz.sizeOf108 rfl rfl rfl) ?_
   refine wl_r (o_ldPtX rfl f1) ?_
   refine wl_call rfl (C_f3Canon _) ?_
   rintro v8 w8 ⟨rfl, b8⟩
   have s8 := b8.size
   replace hw := hw.trans (b8.mono hw.size)
   replace f1 := f1.u b8
   refine zp (o_not rfl) ?_
   refine zm rfl ?_
   refine wl_know 10 false rfl (by simp; omega) ?_
   refine zp (o_faddr (s := 110) (i := 1) (off := 32) Tryz.underlying110 rfl Tryz.sizeOf108 rfl rfl rfl) ?_
   refine wl_r (o_ldPtY rfl f1) ?_
   refine wl_call rfl (C_f3Canon _) ?_
   rintro v13 w13 ⟨rfl, b13⟩
   have s13 := b13.size
   replace hw := hw.trans (b13.mono hw.size)
   replace f1 := f1.u b13
   refine zp (o_not rfl) ?_
   refine zp (o_pick_f rfl rfl) ?_
   refine wl_nil ?_
   rw [decide_eq_true c2]
   refine rk_false rfl ?_
   refine rk_skip (rk_seq ?_)
   refine rk_drawo (id := 3) (none) [0, 1, 0, 4, 10, 0, 32, 0, 128, 336, 0, 0, 3615, 8191] [0, 1, 0, 4, 15, 0, 32, 0, 128, 511, 0, 0, 4095, 8191] 15888 3088 [0, 1, 2, 3, 5, 6, 7, 8] [(.p, 0), (.s, 1), (.p, 2), (.s, 3), (.p, 5), (.s, 6), (.p, 7), (.s, 8), (.f 495 15888 3088, 6)] (by kernel_rfl) (by kernel_rfl) (by kernel_rfl) (by kernel_rfl) (by kernel_rfl) ?_
   dsimp only [inOrder, nthOp]
   replace hw := hw.drew
   replace f1 := f1.d
   refine zp (o_faddr (s := 110) (i := 0) (off := 0) Tryz.underlying110 rfl Tryz.sizeOf108 rfl rfl rfl) ?_
   refine wl_s (fun _ hk => (o_ldPtX rfl (f1.u (below_of_grown_none hk)))) ?_
   refine zp (o_faddr (s := 110) (i := 0) (off := 0) Tryz.underlying110 rfl Tryz.sizeOf108 rfl rfl rfl) ?_
   refine wl_s (fun _ hk => (o_ldPtX rfl (f1.u (below_of_grown_none hk)))) ?_
   refine zp (o_faddr (s := 110) (i := 1) (off := 32) Tryz.underlying110 rfl Tryz.sizeOf108 rfl rfl rfl) ?_
   refine wl_s (fun _ hk => (o_ldPtY rfl (f1.u (below_of_grown_none hk)))) ?_
   refine zp (o_faddr (s := 110) (i := 1) (off := 32) Tryz.underlying110 rfl Tryz.sizeOf108 rfl rfl rfl) ?_
   refine wl_s (fun _ hk => (o_ldPtY rfl (f1.u (below_of_grown_none hk)))) ?_
   refine wl_conc [⟨4, [], [20], [], fun vs w' lo hi => vs = [.agg (B8 x2.1).toArray]⟩, ⟨9, [], [25], [0], fun vs w' lo hi => vs = [.agg (B8 y2.1).toArray]⟩, ⟨10, [], [3], [], fun vs w' lo hi => ∃ (g3 : Nat), vs = [.pointer (some ⟨g3, 0, none⟩)] ∧ Blk w' g3 108 (B8 (List.replicate 32 0)) ∧ lo ≤ g3 ∧ g3 < hi⟩, ⟨11, [], [4], [], fun vs w' lo hi => ∃ (g4 : Nat), vs = [.pointer (some ⟨g4, 0, none⟩)] ∧ Blk w' g4 108 (B8 (List.replicate 32 0)) ∧ lo ≤ g4 ∧ g4 < hi⟩] [0, 1, 2, 3] [0, 1, 0, 4, 10, 0, 32, 0, 128, 336, 0, 0, 3615, 8191] [0, 1, 0, 4, 15, 0, 32, 0, 128, 511, 0, 0, 4095, 8191] [12, 13] [(.l, 12), (.l, 13)] (by kernel_rfl) (by kernel_rfl) (by kernel_rfl) (by kernel_rfl) ⟨fun _ _ _ _ _ h _ => h, fun _ _ _ _ _ h _ => h, fun _ _ _ _ _ h hb => by obtain ⟨g3, e0, g0, g1, g2⟩ := h; exact ⟨g3, e0, g0.u hb, g1, g2⟩, fun _ _ _ _ _ h hb => by obtain ⟨g4, e0, g0, g1, g2⟩ := h; exact ⟨g4, e0, g0.u hb, g1, g2⟩, trivial⟩ ⟨?_, ?_, ?_, ?_, trivial⟩ ?_
   ·intro wI hbI fo T T2 n2
    intro hk
    dsimp only [Item.idx, inOrder, nthOp, List.map, List.zip_cons_cons, List.zip_nil_right, List.cons_append, List.nil_append]
    have shbI := hbI.size
    simp only [drew_size] at shbI
    replace hw := hw.trans (hbI.mono hw.size)
    replace f1 := f1.u hbI
    have hw1 := Below.refl wI.heap.size wI
    refine wl_call rfl (C_f3Mul _ hx2) ?_ (hq := .inr fun _ _ h => grown_of_below h.2 _)
    rintro v20 w20 ⟨rfl, b20⟩
    have s20 := b20.size
    replace hw := hw.trans (b20.mono hw.size)
    replace hw1 := hw1.trans (b20.mono hw1.size)
    replace f1 := f1.u b20
    exact hk [_] _ rfl hw1
   ·intro wI hbI fo T T2 n2
    rintro _ lo0 hi0 ⟨rfl⟩ ql0 qm0 qh0 -
    try dsimp only at ql0 qm0 qh0 
    try simp only [drew_size] at ql0 qm0 qh0 
    intro hk
    dsimp only [Item.idx, inOrder, nthOp, List.map, List.zip_cons_cons, List.zip_nil_right, List.cons_append, List.nil_append]
    have shbI := hbI.size
    simp only [drew_size] at shbI
    replace hw := hw.trans (hbI.mono hw.size)
    replace f1 := f1.u hbI
    have hw1 := Below.refl wI.heap.size wI
    refine wl_call rfl (C_f3Mul _ hy2) ?_
    rintro v25 w25 ⟨rfl, b25⟩
    have s25 := b25.size
    replace hw := hw.trans (b25.mono hw.size)
    replace hw1 := hw1.trans (b25.mono hw1.size)
    replace f1 := f1.u b25
    exact hk [_] _ rfl hw1
   ·intro wI hbI fo T T2 n2
    intro hk
    dsimp only [Item.idx, inOrder, nthOp, List.map, List.zip_cons_cons, List.zip_nil_right, List.cons_append, List.nil_append]
    have shbI := hbI.size
    simp only [drew_size] at shbI
    replace hw := hw.trans (hbI.mono hw.size)
    replace f1 := f1.u hbI
    have hw1 := Below.refl wI.heap.size wI
    refine wl_allocB Tryz.underlying108 Tryz.zeroValue108 (by rfl) ?_
    rintro g3 w3 f3 b3 i3 i3_1
    have s3 := b3.size
    replace hw := hw.trans (b3.mono hw.size)
    replace hw1 := hw1.trans (b3.mono hw1.size)
    replace f1 := f1.u b3
    exact hk [_] _ ⟨_, rfl, f3, by omega, by omega⟩ hw1
   ·intro wI hbI fo T T2 n2
    intro hk
    dsimp only [Item.idx, inOrder, nthOp, List.map, List.zip_cons_cons, List.zip_nil_right, List.cons_append, List.nil_append]
    have shbI := hbI.size
    simp only [drew_size] at shbI
    replace hw := hw.trans (hbI.mono hw.size)
    replace f1 := f1.u hbI
    have hw1 := Below.refl wI.heap.size wI
    refine wl_allocB Tryz.underlying108 Tryz.zeroValue108 (by rfl) ?_
    rintro g4 w4 f4 b4 i4 i4_1
    have s4 := b4.size
    replace hw := hw.trans (b4.mono hw.size)
    replace hw1 := hw1.trans (b4.mono hw1.size)
    replace f1 := f1.u b4
    exact hk [_] _ ⟨_, rfl, f4, by omega, by omega⟩ hw1
   intro wE hbE
   rintro _ lo0 hi0 ⟨rfl⟩ ql0 qm0 qh0 -
   rintro _ lo1 hi1 ⟨rfl⟩ ql1 qm1 qh1 ⟨qa1_0, -⟩
   rintro _ lo2 hi2 ⟨g3, rfl, f3, f3_1, f3_2⟩ ql2 qm2 qh2 ⟨qa2_1, qa2_0, -⟩
   rintro _ lo3 hi3 ⟨g4, rfl, f4, f4_1, f4_2⟩ ql3 qm3 qh3 ⟨qa3_2, qa3_1, qa3_0, -⟩
   try dsimp only at ql0 qm0 qh0  ql1 qm1 qh1 qa1_0 ql2 qm2 qh2 qa2_0 qa2_1 ql3 qm3 qh3 qa3_0 qa3_1 qa3_2
   try simp only [drew_size] at ql0 qm0 qh0  ql1 qm1 qh1 qa1_0 ql2 qm2 qh2 qa2_0 qa2_1 ql3 qm3 qh3 qa3_0 qa3_1 qa3_2
   dsimp only [given, Item.idx, inOrder, nthOp, List.map, List.zip_cons_cons, List.zip_nil_right]
   have shbE := hbE.size
   simp only [drew_size] at shbE
   replace hw := hw.trans (hbE.mono hw.size)
   replace f1 := f1.u hbE
   refine wl_stBa Tryz.sizeOf108 rfl f3 rfl (by omega) (by rfl) ?_
   rintro w_1 f g e
   have s := g.size
   replace hw := hw.trans (below_of_grownBy g.g hw.size (by omega))
   replace f1 := f1.k g.g (ap_some (by omega))
   replace f4 := f4.k g.g (ap_some (by omega))
   clear f3
   refine wl_stBa Tryz.sizeOf108 rfl f4 rfl (by omega) (by rfl) ?_
   rintro w_2 f_1 g_1 e_1
   have s_1 := g_1.size
   replace hw := hw.trans (below_of_grownBy g_1.g hw.size (by omega))
   replace f1 := f1.k g_1.g (ap_some (by omega))
   replace f := f.k g_1.g (ap_some (by omega))
   clear f4
   refine wl_nild ?_
   refine rk_seq ?_
   refine rk_drawo (id := 4) (none) [0, 0, 0, 7, 8, 24, 33, 0, 255] [0, 0, 0, 7, 15, 31, 63, 0, 255] 505 129 [1, 2] [(.s, 1), (.s, 2), (.f 6 505 129, 7)] (by kernel_rfl) (by kernel_rfl) (by kernel_rfl) (by kernel_rfl) (by kernel_rfl) ?_
   dsimp only [inOrder, nthOp]
   replace hw := hw.drew
   replace f := f.d
   replace f1 := f1.d
   replace f_1 := f_1.d
   refine wl_s (fun _ hk => (o_ldBa Tryz.isAgg108 Tryz.sizeOf108 rfl (f_1.u (below_of_grown_none hk)) (by omega))) ?_
   refine wl_s (fun _ hk => (o_ldBa Tryz.isAgg108 Tryz.sizeOf108 rfl (f.u (below_of_grown_none hk)) (by omega))) ?_
   refine wl_conc [⟨0, [], [26], [], fun vs w' lo hi => vs = [.agg (B8 k6.1).toArray]⟩, ⟨3, [], [29], [0], fun vs w' lo hi => vs = [.agg (B8 s1.1).toArray]⟩, ⟨4, [], [30], [0, 1], fun vs w' lo hi => vs = [.agg (B8 k1.1).toArray]⟩, ⟨5, [], [31], [0, 1, 2], fun vs w' lo hi => vs = [.agg (B8 s2.1).toArray]⟩, ⟨6, [], [32], [0, 1, 2, 3], fun vs w' lo hi => vs = [.agg (B8 lf.1).toArray]⟩, ⟨7, [], [5], [], fun vs w' lo hi => ∃ (g5 : Nat), vs = [.pointer (some ⟨g5, 0, none⟩)] ∧ Blk w' g5 108 (B8 (List.replicate 32 0)) ∧ lo ≤ g5 ∧ g5 < hi⟩] [0, 1, 2, 3, 4, 5] [0, 0, 0, 7, 8, 24, 33, 0, 255] [0, 0, 0, 7, 15, 31, 63, 0, 255] [8] [(.l, 8)] (by kernel_rfl) (by kernel_rfl) (by kernel_rfl) (by kernel_rfl) ⟨fun _ _ _ _ _ h _ => h, fun _ _ _ _ _ h _ => h, fun _ _ _ _ _ h _ => h, fun _ _ _ _ _ h _ => h, fun _ _ _ _ _ h _ => h, fun _ _ _ _ _ h hb => by obtain ⟨g5, e0, g0, g1, g2⟩ := h; exact ⟨g5, e0, g0.u hb, g1, g2⟩, trivial⟩ ⟨?_, ?_, ?_, ?_, ?_, ?_, trivial⟩ ?_
   ·intro wI hbI fo T T2 n2
    intro hk
    dsimp only [Item.idx, inOrder, nthOp, List.map, List.zip_cons_cons, List.zip_nil_right, List.cons_append, List.nil_append]
    have shbI := hbI.size
    simp only [drew_size] at shbI
    replace hw := hw.trans (hbI.mono hw.size)
    replace f_1 := f_1.u hbI
    replace f1 := f1.u hbI
    replace f := f.u hbI
    have hw1 := Below.refl wI.heap.size wI
    refine wl_call rfl (C_f3Of _ hk6) ?_ (hq := .inr fun _ _ h => grown_of_below h.2 _)
    rintro v26 w26 ⟨rfl, b26⟩
    have s26 := b26.size
    replace hw := hw.trans (b26.mono hw.size)
    replace hw1 := hw1.trans (b26.mono hw1.size)
    replace f := f.u b26
    replace f1 := f1.u b26
    replace f_1 := f_1.u b26
    exact hk [_] _ rfl hw1
   ·intro wI hbI fo T T2 n2
    rintro _ lo0 hi0 ⟨rfl⟩ ql0 qm0 qh0 -
    try dsimp only at ql0 qm0 qh0 
    try simp only [drew_size] at ql0 qm0 qh0 
    intro hk
    dsimp only [Item.idx, inOrder, nthOp, List.map, List.zip_cons_cons, List.zip_nil_right, List.cons_append, List.nil_append]
    have shbI := hbI.size
    simp only [drew_size] at shbI
    replace hw := hw.trans (hbI.mono hw.size)
    replace f_1 := f_1.u hbI
    replace f1 := f1.u hbI
    replace f := f.u hbI
    have hw1 := Below.refl wI.heap.size wI
    refine wl_call rfl (C_f3Sub _ hs1) ?_
    rintro v29 w29 ⟨rfl, b29⟩
    have s29 := b29.size
    replace hw := hw.trans (b29.mono hw.size)
    replace hw1 := hw1.trans (b29.mono hw1.size)
    replace f := f.u b29
    replace f1 := f1.u b29
    replace f_1 := f_1.u b29
    exact hk [_] _ rfl hw1
   ·intro wI hbI fo T T2 n2
    rintro _ lo0 hi0 ⟨rfl⟩ ql0 qm0 qh0 -
    rintro _ lo1 hi1 ⟨rfl⟩ ql1 qm1 qh1 ⟨qa1_0, -⟩
    try dsimp only at ql0 qm0 qh0  ql1 qm1 qh1 qa1_0
    try simp only [drew_size] at ql0 qm0 qh0  ql1 qm1 qh1 qa1_0
    intro hk
    dsimp only [Item.idx, inOrder, nthOp, List.map, List.zip_cons_cons, List.zip_nil_right, List.cons_append, List.nil_append]
    have shbI := hbI.size
    simp only [drew_size] at shbI
    replace hw := hw.trans (hbI.mono hw.size)
    replace f_1 := f_1.u hbI
    replace f1 := f1.u hbI
    replace f := f.u hbI
    have hw1 := Below.refl wI.heap.size wI
    refine wl_call rfl (C_f3Of _ hk1) ?_
    rintro v30 w30 ⟨rfl, b30⟩
    have s30 := b30.size
    replace hw := hw.trans (b30.mono hw.size)
    replace hw1 := hw1.trans (b30.mono hw1.size)
    replace f := f.u b30
    replace f1 := f1.u b30
    replace f_1 := f_1.u b30
    exact hk [_] _ rfl hw1
   ·intro wI hbI fo T T2 n2
    rintro _ lo0 hi0 ⟨rfl⟩ ql0 qm0 qh0 -
    rintro _ lo1 hi1 ⟨rfl⟩ ql1 qm1 qh1 ⟨qa1_0, -⟩
    rintro _ lo2 hi2 ⟨rfl⟩ ql2 qm2 qh2 ⟨qa2_1, qa2_0, -⟩
    try dsimp only at ql0 qm0 qh0  ql1 qm1 qh1 qa1_0 ql2 qm2 qh2 qa2_0 qa2_1
    try simp only [drew_size] at ql0 qm0 qh0  ql1 qm1 qh1 qa1_0 ql2 qm2 qh2 qa2_0 qa2_1
    intro hk
    dsimp only [Item.idx, inOrder, nthOp, List.map, List.zip_cons_cons, List.zip_nil_right, List.cons_append, List.nil_append]
    have shbI := hbI.size
    simp only [drew_size] at shbI
    replace hw := hw.trans (hbI.mono hw.size)
    replace f_1 := f_1.u hbI
    replace f1 := f1.u hbI
    replace f := f.u hbI
    have hw1 := Below.refl wI.heap.size wI
    refine wl_call rfl (C_f3Sub _ hs2) ?_
    rintro v31 w31 ⟨rfl, b31⟩
    have s31 := b31.size
    replace hw := hw.trans (b31.mono hw.size)
    replace hw1 := hw1.trans (b31.mono hw1.size)
    replace f := f.u b31
    replace f1 := f1.u b31
    replace f_1 := f_1.u b31
    exact hk [_] _ rfl hw1
   ·intro wI hbI fo T T2 n2
    rintro _ lo0 hi0 ⟨rfl⟩ ql0 qm0 qh0 -
    rintro _ lo1 hi1 ⟨rfl⟩ ql1 qm1 qh1 ⟨qa1_0, -⟩
    rintro _ lo2 hi2 ⟨rfl⟩ ql2 qm2 qh2 ⟨qa2_1, qa2_0, -⟩
    rintro _ lo3 hi3 ⟨rfl⟩ ql3 qm3 qh3 ⟨qa3_2, qa3_1, qa3_0, -⟩
    try dsimp only at ql0 qm0 qh0  ql1 qm1 qh1 qa1_0 ql2 qm2 qh2 qa2_0 qa2_1 ql3 qm3 qh3 qa3_0 qa3_1 qa3_2
    try simp only [drew_size] at ql0 qm0 qh0  ql1 qm1 qh1 qa1_0 ql2 qm2 qh2 qa2_0 qa2_1 ql3 qm3 qh3 qa3_0 qa3_1 qa3_2
    intro hk
    dsimp only [Item.idx, inOrder, nthOp, List.map, List.zip_cons_cons, List.zip_nil_right, List.cons_append, List.nil_append]
    have shbI := hbI.size
    simp only [drew_size] at shbI
    replace hw := hw.trans (hbI.mono hw.size)
    replace f_1 := f_1.u hbI
    replace f1 := f1.u hbI
    replace f := f.u hbI
    have hw1 := Below.refl wI.heap.size wI
    refine wl_call rfl (C_f3Mul _ hlf) ?_
    rintro v32 w32 ⟨rfl, b32⟩
    have s32 := b32.size
    replace hw := hw.trans (b32.mono hw.size)
    replace hw1 := hw1.trans (b32.mono hw1.size)
    replace f := f.u b32
    replace f1 := f1.u b32
    replace f_1 := f_1.u b32
    exact hk [_] _ rfl hw1
   ·intro wI hbI fo T T2 n2
    intro hk
    dsimp only [Item.idx, inOrder, nthOp, List.map, List.zip_cons_cons, List.zip_nil_right, List.cons_append, List.nil_append]
    have shbI := hbI.size
    simp only [drew_size] at shbI
    replace hw := hw.trans (hbI.mono hw.size)
    replace f_1 := f_1.u hbI
    replace f1 := f1.u hbI
    replace f := f.u hbI
    have hw1 := Below.refl wI.heap.size wI
    refine wl_allocB Tryz.underlying108 Tryz.zeroValue108 (by rfl) ?_
    rintro g5 w5 f5 b5 i5 i5_1
    have s5 := b5.size
    replace hw := hw.trans (b5.mono hw.size)
    replace hw1 := hw1.trans (b5.mono hw1.size)
    replace f := f.u b5
    replace f1 := f1.u b5
    replace f_1 := f_1.u b5
    exact hk [_] _ ⟨_, rfl, f5, by omega, by omega⟩ hw1
   intro wE hbE
   rintro _ lo0 hi0 ⟨rfl⟩ ql0 qm0 qh0 -
   rintro _ lo1 hi1 ⟨rfl⟩ ql1 qm1 qh1 ⟨qa1_0, -⟩
   rintro _ lo2 hi2 ⟨rfl⟩ ql2 qm2 qh2 ⟨qa2_1, qa2_0, -⟩
   rintro _ lo3 hi3 ⟨rfl⟩ ql3 qm3 qh3 ⟨qa3_2, qa3_1, qa3_0, -⟩
   rintro _ lo4 hi4 ⟨rfl⟩ ql4 qm4 qh4 ⟨qa4_3, qa4_2, qa4_1, qa4_0, -⟩
   rintro _ lo5 hi5 ⟨g5, rfl, f5, f5_1, f5_2⟩ ql5 qm5 qh5 ⟨qa5_4, qa5_3, qa5_2, qa5_1, qa5_0, -⟩
   try dsimp only at ql0 qm0 qh0  ql1 qm1 qh1 qa1_0 ql2 qm2 qh2 qa2_0 qa2_1 ql3 qm3 qh3 qa3_0 qa3_1 qa3_2 ql4 qm4 qh4 qa4_0 qa4_1 qa4_2 qa4_3 ql5 qm5 qh5 qa5_0 qa5_1 qa5_2 qa5_3 qa5_4
   try simp only [drew_size] at ql0 qm0 qh0  ql1 qm1 qh1 qa1_0 ql2 qm2 qh2 qa2_0 qa2_1 ql3 qm3 qh3 qa3_0 qa3_1 qa3_2 ql4 qm4 qh4 qa4_0 qa4_1 qa4_2 qa4_3 ql5 qm5 qh5 qa5_0 qa5_1 qa5_2 qa5_3 qa5_4
   dsimp only [given, Item.idx, inOrder, nthOp, List.map, List.zip_cons_cons, List.zip_nil_right]
   have shbE_1 := hbE.size
   simp only [drew_size] at shbE_1
   replace hw := hw.trans (hbE.mono hw.size)
   replace f_1 := f_1.u hbE
   replace f1 := f1.u hbE
   replace f := f.u hbE
   refine wl_stBa Tryz.sizeOf108 rfl f5 rfl (by omega) (by rfl) ?_
   rintro w_3 f_2 g_2 e_2
   have s_2 := g_2.size
   replace hw := hw.trans (below_of_grownBy g_2.g hw.size (by omega))
   replace f := f.k g_2.g (ap_some (by omega))
   replace f1 := f1.k g_2.g (ap_some (by omega))
   replace f_1 := f_1.k g_2.g (ap_some (by omega))
   clear f5
   refine wl_nild ?_
   refine rk_seq (rk_seq ?_)
   refine rk_drawo (id := 5) (none) [0, 0, 0, 0, 14, 18, 32, 65] [0, 0, 0, 0, 14, 30, 62, 127] 114 114 [0, 2, 3, 1, 4, 5, 6, 7] [(.s, 0), (.s, 2), (.s, 3), (.c, 1), (.c, 4), (.c, 5), (.c, 6), (.p, 7)] (by kernel_rfl) (by kernel_rfl) (by kernel_rfl) (by kernel_rfl) (by kernel_rfl) ?_
   dsimp only [inOrder, nthOp]
   replace hw := hw.drew
   replace f_1 := f_1.d
   replace f1 := f1.d
   replace f := f.d
   replace f_2 := f_2.d
   refine wl_s (fun _ hk => (o_ldBa Tryz.isAgg108 Tryz.sizeOf108 rfl (f_2.u (below_of_grown_none hk)) (by omega))) ?_
   refine wl_s (fun _ hk => (o_ldBa Tryz.isAgg108 Tryz.sizeOf108 rfl (f.u (below_of_grown_none hk)) (by omega))) ?_
   refine wl_s (fun _ hk => (o_ldBa Tryz.isAgg108 Tryz.sizeOf108 rfl (f_1.u (below_of_grown_none hk)) (by omega))) ?_
   refine wl_call rfl (C_f3Of _ hk5) ?_ (hq := .inr fun _ _ h => grown_of_below h.2 _)
   rintro v34 w34 ⟨rfl, b34⟩
   simp only [drew_size] at b34
   have s34 := b34.size
   simp only [drew_size] at s34
   replace hw := hw.trans (b34.mono hw.size)
   replace f_2 := f_2.u b34
   replace f := f.u b34
   replace f1 := f1.u b34
   replace f_1 := f_1.u b34
   refine wl_call rfl (C_f3Mul _ hm1) ?_ (hq := .inr fun _ _ h => grown_of_below h.2 _)
   rintro v37 w37 ⟨rfl, b37⟩
   have s37 := b37.size
   replace hw := hw.trans (b37.mono hw.size)
   replace f_1 := f_1.u b37
   replace f1 := f1.u b37
   replace f := f.u b37
   replace f_2 := f_2.u b37
   refine wl_call rfl (C_f3Mul _ hm2) ?_ (hq := .inr fun _ _ h => grown_of_below h.2 _)
   rintro v38 w38 ⟨rfl, b38⟩
   have s38 := b38.size
   replace hw := hw.trans (b38.mono hw.size)
   replace f_2 := f_2.u b38
   replace f := f.u b38
   replace f1 := f1.u b38
   replace f_1 := f_1.u b38
   refine wl_call rfl (C_f3Neg _ hrg) ?_ (hq := .inr fun _ _ h => grown_of_below h.2 _)
   rintro v39 w39 ⟨rfl, b39⟩
   have s39 := b39.size
   replace hw := hw.trans (b39.mono hw.size)
   replace f_1 := f_1.u b39
   replace f1 := f1.u b39
   replace f := f.u b39
   replace f_2 := f_2.u b39
   refine zp (o_neNum rfl rfl) ?_
   refine wl_nild ?_
   by_cases c3 : lf = rg
   ·rw [if_pos ⟨c1, c2, c3⟩] at hr2
    rw [decide_eq_false (fun h => h c3)]
    refine rk_false rfl ?_
    refine rk_skip (zs (za rfl (wl_nil ?_)))
    refine ret1 rfl rfl ?_
    exact ⟨by rw [hr2], hw⟩
   ·rw [if_neg (fun h => c3 h.2.2)] at hr2
    refine rk_if rfl (fun h40 => ?_) (fun h40 => h40.elim (by omega))
    refine zs (za rfl (wl_nil ?_))
    refine ret1 rfl rfl ?_
    exact ⟨by rw [hr2], hw⟩
  ·rw [if_neg (fun h => c2 h.2.1)] at hr2
   refine zs ?_
   refine wl_boxg _ rfl (by rfl) ?_
   rintro g1 w1 f1 b1 i1 i1_1
   have s1_1 := b1.size
   replace hw := hw.trans (b1.mono hw.size)
   refine za rfl (wl_nil (rk_seq (zs ?_)))
   refine zp (o_faddr (s := 110) (i := 0) (off := 0) Tryz.underlying110 rfl Tryz.sizeOf108 rfl rfl rfl) ?_
   refine wl_r (o_ldPtX rfl f1) ?_
   refine wl_call rfl (C_f3Canon _) ?_
   rintro v8 w8 ⟨rfl, b8⟩
   have s8 := b8.size
   replace hw := hw.trans (b8.mono hw.size)
   replace f1 := f1.u b8
   refine zp (o_not rfl) ?_
   refine zm rfl ?_
   refine wl_know 10 false rfl (by simp; omega) ?_
   refine zp (o_faddr (s := 110) (i := 1) (off := 32) Tryz.underlying110 rfl Tryz.sizeOf108 rfl rfl rfl) ?_
   refine wl_r (o_ldPtY rfl f1) ?_
   refine wl_call rfl (C_f3Canon _) ?_
   rintro v13 w13 ⟨rfl, b13⟩
   have s13 := b13.size
   replace hw := hw.trans (b13.mono hw.size)
   replace f1 := f1.u b13
   refine zp (o_not rfl) ?_
   refine zp (o_pick_f rfl rfl) ?_
   refine wl_nil ?_
   rw [decide_eq_false c2]
   refine rk_true rfl ?_
   refine zs (za rfl (wl_nil ?_))
   refine ret1 rfl rfl ?_
   exact ⟨by rw [hr2], hw⟩
 ·rw [if_neg (fun h => c1 h.1)] at hr2
  refine zs ?_
  refine wl_boxg _ rfl (by rfl) ?_
  rintro g1 w1 f1 b1 i1 i1_1
  have s1_1 := b1.size
  replace hw := hw.trans (b1.mono hw.size)
  refine za rfl (wl_nil (rk_seq (zs ?_)))
  refine zp (o_faddr (s := 110) (i := 0) (off := 0) Tryz.underlying110 rfl Tryz.sizeOf108 rfl rfl rfl) ?_
  refine wl_r (o_ldPtX rfl f1) ?_
  refine wl_call rfl (C_f3Canon _) ?_
  rintro v8 w8 ⟨rfl, b8⟩
  have s8 := b8.size
  replace hw := hw.trans (b8.mono hw.size)
  replace f1 := f1.u b8
  refine zp (o_not rfl) ?_
  refine zm rfl ?_
  refine wl_know 10 true rfl (by simp; omega) ?_
  refine wl_off (wl_off (wl_off (wl_off ?_)))
  refine zp (o_pick_t rfl rfl) ?_
  refine wl_nil ?_
  refine rk_true rfl ?_
  refine zs (za rfl (wl_nil ?_))
  refine ret1 rfl rfl ?_
  exact ⟨by rw [hr2], hw⟩
end Go.Proofs.YtahkeoegbjopfaaGreat
namespace Go.Proofs.YtahkeoegbjopfaaGreat
set_option maxRecDepth 100000
open Go.RowKit
attribute [local irreducible] carryS openS closeS plusS minusS timesS powerS ofS shiftedS restS subS negS mulS powS invS rootS crRoot awayS nearS fplus
set_option maxRecDepth 100000 in
set_option maxHeartbeats 4000000 in
theorem C_f5plus {d : W10} {p q : Fr3} {r : Fr3} (w : World) (hr : fplus d p q = r) :
  CallsR Tryz.prog 150 [.agg (vI d.1).toArray, .agg (frC p).toArray, .agg (frC q).toArray] w fun v w' => v = .agg (frC r).toArray ∧ Below w.heap.size w w' := by
 have hd := d.2
 obtain ⟨xa, hxa⟩ : ∃ zz, timesS p.2.2 q.2.2 = zz := ⟨_, rfl⟩
 obtain ⟨xb, hxb⟩ : ∃ zz, timesS xa xa = zz := ⟨_, rfl⟩
 obtain ⟨xc, hxc⟩ : ∃ zz, timesS p.1 q.1 = zz := ⟨_, rfl⟩
 obtain ⟨xe, hxe⟩ : ∃ zz, timesS p.2.1 q.2.1 = zz := ⟨_, rfl⟩
 obtain ⟨ce, hce⟩ : ∃ zz, timesS xc xe = zz := ⟨_, rfl⟩
 obtain ⟨xm, hxm⟩ : ∃ zz, timesS d ce = zz := ⟨_, rfl⟩
 obtain ⟨xf, hxf⟩ : ∃ zz, minusS xb xm = zz := ⟨_, rfl⟩
 obtain ⟨xg, hxg⟩ : ∃ zz, plusS xb xm = zz := ⟨_, rfl⟩
 obtain ⟨bo, hbo⟩ : ∃ zz, plusS xc xe = zz := ⟨_, rfl⟩
 obtain ⟨s1, hs1⟩ : ∃ zz, plusS p.1 p.2.1 = zz := ⟨_, rfl⟩
 obtain ⟨s2, hs2⟩ : ∃ zz, plusS q.1 q.2.1 = zz := ⟨_, rfl⟩
 obtain ⟨t1, ht1⟩ : ∃ zz, timesS s1 s2 = zz := ⟨_, rfl⟩
 obtain ⟨cr, hcr⟩ : ∃ zz, minusS t1 bo = zz := ⟨_, rfl⟩
 obtain ⟨fc, hfc⟩ : ∃ zz, timesS xf cr = zz := ⟨_, rfl⟩
 obtain ⟨r1, hr1⟩ : ∃ zz, timesS xa fc = zz := ⟨_, rfl⟩
 obtain ⟨gb, hgb⟩ : ∃ zz, timesS xg bo = zz := ⟨_, rfl⟩
 obtain ⟨r2, hr2'⟩ : ∃ zz, timesS xa gb = zz := ⟨_, rfl⟩
 obtain ⟨r3, hr3⟩ : ∃ zz, timesS xf xg = zz := ⟨_, rfl⟩
 have hr2 : r = (r1, r2, r3) := by
  rw [← hr]; unfold fplus fpZ fpX fpC fpE fpA
  rw [hxa, hxb, hxc, hxe, hce, hxm, hxf, hxg, hbo, hs1, hs2, ht1, hcr, hfc, hr1, hgb, hr2', hr3]
 clear hr
 refine callsR Tryz.func150 rfl rfl (by kernel_rfl) rfl ?_
 have hw := Below.refl w.heap.size w
 refine zs ?_
 refine wl_boxg _ rfl (by rfl) ?_
 rintro g3 w3 f3 b3 i3 i3_1
 have s3 := b3.size
 replace hw := hw.trans (b3.mono hw.size)
 refine wl_boxg _ rfl (by rfl) ?_
 rintro g4 w4 f4 b4 i4 i4_1
 have s4 := b4.size
 replace hw := hw.trans (b4.mono hw.size)
 replace f3 := f3.u b4
 refine wl_boxg _ rfl (by rfl) ?_
 rintro g5 w5 f5 b5 i5 i5_1
 have s5 := b5.size
 replace hw := hw.trans (b5.mono hw.size)
 replace f3 := f3.u b5
 replace f4 := f4.u b5
 refine wl_allocg [_, _, _, _, _, _, _, _, _, _, _, _, _, _, _, _, _, _, _, _, _, _, _, _, _, _, _, _, _, _] Tryz.zeroValue177 (by rfl) ?_
 rintro g6 w6 f6 b6 i6 i6_1
 have s6 := b6.size
 replace hw := hw.trans (b6.mono hw.size)
 replace f4 := f4.u b6
 replace f3 := f3.u b6
 replace f5 := f5.u b6
 refine wl_nil (zs ?_)
 refine zp (o_faddr (s := 177) (i := 2) (off := 20) Tryz.underlying177 rfl Tryz.sizeOf173 rfl rfl rfl) ?_
 refine wl_r (o_ldFrZ rfl f4) ?_
 refine zp (o_faddr (s := 177) (i := 2) (off := 20) Tryz.underlying177 rfl Tryz.sizeOf173 rfl rfl rfl) ?_
 refine wl_r (o_ldFrZ rfl f5) ?_
 refine wl_call rfl (C_f3Times _ hxa) ?_
 rintro v20 w20 ⟨rfl, b20⟩
 have s20 := b20.size
 replace hw := hw.trans (b20.mono hw.size)
 replace f5 := f5.u b20
 replace f3 := f3.u b20
 replace f4 := f4.u b20
 replace f6 := f6.u b20
 refine wl_allocg [_, _, _, _, _, _, _, _, _, _] Tryz.zeroValue173 (by rfl) ?_
 rintro g7 w7 f7 b7 i7 i7_1
 have s7 := b7.size
 replace hw := hw.trans (b7.mono hw.size)
 replace f6 := f6.u b7
 replace f4 := f4.u b7
 replace f3 := f3.u b7
 replace f5 := f5.u b7
 refine wl_stW0 rfl f7 rfl (by rfl) ?_
 rintro w_1 f g e
 have s := g.size
 replace hw := hw.trans (below_of_grownBy g.g hw.size (by omega))
 replace f5 := f5.k g.g (ap_some (by omega))
 replace f3 := f3.k g.g (ap_some (by omega))
 replace f4 := f4.k g.g (ap_some (by omega))
 replace f6 := f6.k g.g (ap_some (by omega))
 clear f7
 refine wl_nil (zs ?_)
 refine wl_r (o_loadag Tryz.isAgg173 Tryz.sizeOf173 rfl f vI10) ?_
 refine wl_r (o_loadag Tryz.isAgg173 Tryz.sizeOf173 rfl f vI10) ?_
 refine wl_call rfl (C_f3Times _ hxb) ?_
 rintro v23 w23 ⟨rfl, b23⟩
 have s23 := b23.size
 replace hw := hw.trans (b23.mono hw.size)
 replace f6 := f6.u b23
 replace f4 := f4.u b23
 replace f3 := f3.u b23
 replace f5 := f5.u b23
 replace f := f.u b23
 refine wl_allocg [_, _, _, _, _, _, _, _, _, _] Tryz.zeroValue173 (by rfl) ?_
 rintro g8 w8 f8 b8 i8 i8_1
 have s8 := b8.size
 replace hw := hw.trans (b8.mono hw.size)
 replace f := f.u b8
 replace f5 := f5.u b8
 replace f3 := f3.u b8
 replace f4 := f4.u b8
 replace f6 := f6.u b8
 refine wl_stW0 rfl f8 rfl (by rfl) ?_
 rintro w_2 f_1 g_1 e_1
 have s_1 := g_1.size
 replace hw := hw.trans (below_of_grownBy g_1.g hw.size (by omega))
 replace f6 := f6.k g_1.g (ap_some (by omega))
 replace f4 := f4.k g_1.g (ap_some (by omega))
 replace f3 := f3.k g_1.g (ap_some (by omega))
 replace f5 := f5.k g_1.g (ap_some (by omega))
 replace f := f.k g_1.g (ap_some (by omega))
 clear f8
 refine wl_nil (rk_seq ?_)
 refine rk_drawo (id := 3) (none) [0, 1, 0, 4, 10, 0, 32, 0, 128, 336, 0, 0, 3615, 8191] [0, 1, 0, 4, 15, 0, 32, 0, 128, 511, 0, 0, 4095, 8191] 15888 3088 [0, 1, 2, 3, 5, 6, 7, 8] [(.p, 0), (.s, 1), (.p, 2), (.s, 3), (.p, 5), (.s, 6), (.p, 7), (.s, 8), (.f 495 15888 3088, 6)] (by kernel_rfl) (by kernel_rfl) (by kernel_rfl) (by kernel_rfl) (by kernel_rfl) ?_
 dsimp only [inOrder, nthOp]
 replace hw := hw.drew
 replace f := f.d
 replace f5 := f5.d
 replace f3 := f3.d
 replace f4 := f4.d
 replace f6 := f6.d
 replace f_1 := f_1.d
 refine zp (o_faddr (s := 177) (i := 0) (off := 0) Tryz.underlying177 rfl Tryz.sizeOf173 rfl rfl rfl) ?_
 refine wl_s (fun _ hk => (o_ldFrX rfl (f4.u (below_of_grown_none hk)))) ?_
 refine zp (o_faddr (s := 177) (i := 0) (off := 0) Tryz.underlying177 rfl Tryz.sizeOf173 rfl rfl rfl) ?_
 refine wl_s (fun _ hk => (o_ldFrX rfl (f5.u (below_of_grown_none hk)))) ?_
 refine zp (o_faddr (s := 177) (i := 1) (off := 10) Tryz.underlying177 rfl Tryz.sizeOf173 rfl rfl rfl) ?_
 refine wl_s (fun _ hk => (o_ldFrY rfl (f4.u (below_of_grown_none hk)))) ?_
 refine zp (o_faddr (s := 177) (i := 1) (off := 10) Tryz.underlying177 rfl Tryz.sizeOf173 rfl rfl rfl) ?_
 refine wl_s (fun _ hk => (o_ldFrY rfl (f5.u (below_of_grown_none hk)))) ?_
 refine wl_conc [⟨4, [], [28], [], fun vs w' lo hi => vs = [.agg (vI xc.1).toArray]⟩, ⟨9, [], [33], [0], fun vs w' lo hi => vs = [.agg (vI xe.1).toArray]⟩, ⟨10, [], [9], [], fun vs w' lo hi => ∃ (g9 : Nat), vs = [.pointer (some ⟨g9, 0, none⟩)] ∧ Blk w' g9 173 (vI (List.replicate 10 0)) ∧ lo ≤ g9 ∧ g9 < hi⟩, ⟨11, [], [10], [], fun vs w' lo hi => ∃ (g10 : Nat), vs = [.pointer (some ⟨g10, 0, none⟩)] ∧ Blk w' g10 173 (vI (List.replicate 10 0)) ∧ lo ≤ g10 ∧ g10 < hi⟩] [0, 1, 2, 3] [0, 1, 0, 4, 10, 0, 32, 0, 128, 336, 0, 0, 3615, 8191] [0, 1, 0, 4, 15, 0, 32, 0, 128, 511, 0, 0, 4095, 8191] [12, 13] [(.l, 12), (.l, 13)] (by kernel_rfl) (by kernel_rfl) (by kernel_rfl) (by kernel_rfl) ⟨fun _ _ _ _ _ h _ => h, fun _ _ _ _ _ h _ => h, fun _ _ _ _ _ h hb => by obtain ⟨g9, e0, g0, g1, g2⟩ := h; exact ⟨g9, e0, g0.u hb, g1, g2⟩, fun _ _ _ _ _ h hb => by obtain ⟨g10, e0, g0, g1, g2⟩ := h; exact ⟨g10, e0, g0.u hb, g1, g2⟩, trivial⟩ ⟨?_, ?_, ?_, ?_, trivial⟩ ?_
 ·intro wI hbI fo T T2 n2
  intro hk
  dsimp only [Item.idx, inOrder, nthOp, List.map, List.zip_cons_cons, List.zip_nil_right, List.cons_append, List.nil_append]
  have shbI := hbI.size
  simp only [drew_size] at shbI
  replace hw := hw.trans (hbI.mono hw.size)
  replace f_1 := f_1.u hbI
  replace f6 := f6.u hbI
  replace f4 := f4.u hbI
  replace f3 := f3.u hbI
  replace f5 := f5.u hbI
  replace f := f.u hbI
  have hw1 := Below.refl wI.heap.size wI
  refine wl_call rfl (C_f3Times _ hxc) ?_ (hq := .inr fun _ _ h => grown_of_below h.2 _)
  rintro v28 w28 ⟨rfl, b28⟩
  have s28 := b28.size
  replace hw := hw.trans (b28.mono hw.size)
  replace hw1 := hw1.trans (b28.mono hw1.size)
  replace f := f.u b28
  replace f5 := f5.u b28
  replace f3 := f3.u b28
  replace f4 := f4.u b28
  replace f6 := f6.u b28
  replace f_1 := f_1.u b28
  exact hk [_] _ rfl hw1
 ·intro wI hbI fo T T2 n2
  rintro _ lo0 hi0 ⟨rfl⟩ ql0 qm0 qh0 -
  try dsimp only at ql0 qm0 qh0 
  try simp only [drew_size] at ql0 qm0 qh0 
  intro hk
  dsimp only [Item.idx, inOrder, nthOp, List.map, List.zip_cons_cons, List.zip_nil_right, List.cons_append, List.nil_append]
  have shbI := hbI.size
  simp only [drew_size] at shbI
  replace hw := hw.trans (hbI.mono hw.size)
  replace f_1 := f_1.u hbI
  replace f6 := f6.u hbI
  replace f4 := f4.u hbI
  replace f3 := f3.u hbI
  replace f5 := f5.u hbI
  replace f := f.u hbI
  have hw1 := Below.refl wI.heap.size wI
  refine wl_call rfl (C_f3Times _ hxe) ?_
  rintro v33 w33 ⟨rfl, b33⟩
  have s33 := b33.size
  replace hw := hw.trans (b33.mono hw.size)
  replace hw1 := hw1.trans (b33.mono hw1.size)
  replace f := f.u b33
  replace f5 := f5.u b33
  replace f3 := f3.u b33
  replace f4 := f4.u b33
  replace f6 := f6.u b33
  replace f_1 := f_1.u b33
  exact hk [_] _ rfl hw1
 ·intro wI hbI fo T T2 n2
  intro hk
  dsimp only [Item.idx, inOrder, nthOp, List.map, List.zip_cons_cons, List.zip_nil_right, List.cons_append, List.nil_append]
  have shbI := hbI.size
  simp only [drew_size] at shbI
  replace hw := hw.trans (hbI.mono hw.size)
  replace f_1 := f_1.u hbI
  replace f6 := f6.u hbI
  replace f4 := f4.u hbI
  replace f3 := f3.u hbI
  replace f5 := f5.u hbI
  replace f := f.u hbI
  have hw1 := Below.refl wI.heap.size wI
  refine wl_allocg [_, _, _, _, _, _, _, _, _, _] Tryz.zeroValue173 (by rfl) ?_
  rintro g9 w9 f9 b9 i9 i9_1
  have s9 := b9.size
  replace hw := hw.trans (b9.mono hw.size)
  replace hw1 := hw1.trans (b9.mono hw1.size)
  replace f := f.u b9
  replace f5 := f5.u b9
  replace f3 := f3.u b9
  replace f4 := f4.u b9
  replace f6 := f6.u b9
  replace f_1 := f_1.u b9
  exact hk [_] _ ⟨_, rfl, f9, by omega, by omega⟩ hw1
 ·intro wI hbI fo T T2 n2
  intro hk
  dsimp only [Item.idx, inOrder, nthOp, List.map, List.zip_cons_cons, List.zip_nil_right, List.cons_append, List.nil_append]
  have shbI := hbI.size
  simp only [drew_size] at shbI
  replace hw := hw.trans (hbI.mono hw.size)
  replace f_1 := f_1.u hbI
  replace f6 := f6.u hbI
  replace f4 := f4.u hbI
  replace f3 := f3.u hbI
  replace f5 := f5.u hbI
  replace f := f.u hbI
  have hw1 := Below.refl wI.heap.size wI
  refine wl_allocg [_, _, _, _, _, _, _, _, _, _] Tryz.zeroValue173 (by rfl) ?_
  rintro g10 w10 f10 b10 i10 i10_1
  have s10 := b10.size
  replace hw := hw.trans (b10.mono hw.size)
  replace hw1 := hw1.trans (b10.mono hw1.size)
  replace f := f.u b10
  replace f5 := f5.u b10
  replace f3 := f3.u b10
  replace f4 := f4.u b10
  replace f6 := f6.u b10
  replace f_1 := f_1.u b10
  exact hk [_] _ ⟨_, rfl, f10, by omega, by omega⟩ hw1
 intro wE hbE
 rintro _ lo0 hi0 ⟨rfl⟩ ql0 qm0 qh0 -
 rintro _ lo1 hi1 ⟨rfl⟩ ql1 qm1 qh1 ⟨qa1_0, -⟩
 rintro _ lo2 hi2 ⟨g9, rfl, f9, f9_1, f9_2⟩ ql2 qm2 qh2 ⟨qa2_1, qa2_0, -⟩
 rintro _ lo3 hi3 ⟨g10, rfl, f10, f10_1, f10_2⟩ ql3 qm3 qh3 ⟨qa3_2, qa3_1, qa3_0, -⟩
 try dsimp only at ql0 qm0 qh0  ql1 qm1 qh1 qa1_0 ql2 qm2 qh2 qa2_0 qa2_1 ql3 qm3 qh3 qa3_0 qa3_1 qa3_2
 try simp only [drew_size] at ql0 qm0 qh0  ql1 qm1 qh1 qa1_0 ql2 qm2 qh2 qa2_0 qa2_1 ql3 qm3 qh3 qa3_0 qa3_1 qa3_2
 dsimp only [given, Item.idx, inOrder, nthOp, List.map, List.zip_cons_cons, List.zip_nil_right]
 have shbE := hbE.size
 simp only [drew_size] at shbE
 replace hw := hw.trans (hbE.mono hw.size)
 replace f_1 := f_1.u hbE
 replace f6 := f6.u hbE
 replace f4 := f4.u hbE
 replace f3 := f3.u hbE
 replace f5 := f5.u hbE
 replace f := f.u hbE
 refine wl_stW0 rfl f9 rfl (by rfl) ?_
 rintro w_3 f_2 g_2 e_2
 have s_2 := g_2.size
 replace hw := hw.trans (below_of_grownBy g_2.g hw.size (by omega))
 replace f := f.k g_2.g (ap_some (by omega))
 replace f5 := f5.k g_2.g (ap_some (by omega))
 replace f3 := f3.k g_2.g (ap_some (by omega))
 replace f4 := f4.k g_2.g (ap_some (by omega))
 replace f6 := f6.k g_2.g (ap_some (by omega))
 replace f_1 := f_1.k g_2.g (ap_some (by omega))
 replace f10 := f10.k g_2.g (ap_some (by omega))
 clear f9
 refine wl_stW0 rfl f10 rfl (by rfl) ?_
 rintro w_4 f_3 g_3 e_3
 have s_3 := g_3.size
 replace hw := hw.trans (below_of_grownBy g_3.g hw.size (by omega))
 replace f_1 := f_1.k g_3.g (ap_some (by omega))
 replace f6 := f6.k g_3.g (ap_some (by omega))
 replace f4 := f4.k g_3.g (ap_some (by omega))
 replace f3 := f3.k g_3.g (ap_some (by omega))
 replace f5 := f5.k g_3.g (ap_some (by omega))
 replace f := f.k g_3.g (ap_some (by omega))
 replace f_2 := f_2.k g_3.g (ap_some (by omega))
 clear f10
 refine wl_nild ?_
 refine rk_seq ?_
 refine rk_drawo (id := 4) (none) [0, 0, 0, 6, 9, 0, 63] [0, 0, 0, 6, 15, 0, 63] 120 40 [0, 1, 2] [(.s, 0), (.s, 1), (.s, 2), (.f 7 120 40, 4)] (by kernel_rfl) (by kernel_rfl) (by kernel_rfl) (by kernel_rfl) (by kernel_rfl) ?_
 dsimp only [inOrder, nthOp]
 replace hw := hw.drew
 replace f_2 := f_2.d
 replace f := f.d
 replace f5 := f5.d
 replace f3 := f3.d
 replace f4 := f4.d
 replace f6 := f6.d
 replace f_1 := f_1.d
 replace f_3 := f_3.d
 refine wl_s (fun _ hk => (o_loadag Tryz.isAgg173 Tryz.sizeOf173 rfl (f3.u (below_of_grown_none hk)) vI10)) ?_
 refine wl_s (fun _ hk => (o_loadag Tryz.isAgg173 Tryz.sizeOf173 rfl (f_2.u (below_of_grown_none hk)) vI10)) ?_
 refine wl_s (fun _ hk => (o_loadag Tryz.isAgg173 Tryz.sizeOf173 rfl (f_3.u (below_of_grown_none hk)) vI10)) ?_
 refine wl_conc [⟨3, [], [37], [], fun vs w' lo hi => vs = [.agg (vI ce.1).toArray]⟩, ⟨4, [], [38], [0], fun vs w' lo hi => vs = [.agg (vI xm.1).toArray]⟩, ⟨5, [], [11], [], fun vs w' lo hi => ∃ (g11 : Nat), vs = [.pointer (some ⟨g11, 0, none⟩)] ∧ Blk w' g11 173 (vI (List.replicate 10 0)) ∧ lo ≤ g11 ∧ g11 < hi⟩] [0, 1, 2] [0, 0, 0, 6, 9, 0, 63] [0, 0, 0, 6, 15, 0, 63] [6] [(.l, 6)] (by kernel_rfl) (by kernel_rfl) (by kernel_rfl) (by kernel_rfl) ⟨fun _ _ _ _ _ h _ => h, fun _ _ _ _ _ h _ => h, fun _ _ _ _ _ h hb => by obtain ⟨g11, e0, g0, g1, g2⟩ := h; exact ⟨g11, e0, g0.u hb, g1, g2⟩, trivial⟩ ⟨?_, ?_, ?_, trivial⟩ ?_
 ·intro wI hbI fo T T2 n2
  intro hk
  dsimp only [Item.idx, inOrder, nthOp, List.map, List.zip_cons_cons, List.zip_nil_right, List.cons_append, List.nil_append]
  have shbI := hbI.size
  simp only [drew_size] at shbI
  replace hw := hw.trans (hbI.mono hw.size)
  replace f_3 := f_3.u hbI
  replace f_1 := f_1.u hbI
  replace f6 := f6.u hbI
  replace f4 := f4.u hbI
  replace f3 := f3.u hbI
  replace f5 := f5.u hbI
  replace f := f.u hbI
  replace f_2 := f_2.u hbI
  have hw1 := Below.refl wI.heap.size wI
  refine wl_call rfl (C_f3Times _ hce) ?_ (hq := .inr fun _ _ h => grown_of_below h.2 _)
  rintro v37 w37 ⟨rfl, b37⟩
  have s37 := b37.size
  replace hw := hw.trans (b37.mono hw.size)
  replace hw1 := hw1.trans (b37.mono hw1.size)
  replace f_2 := f_2.u b37
  replace f := f.u b37
  replace f5 := f5.u b37
  replace f3 := f3.u b37
  replace f4 := f4.u b37
  replace f6 := f6.u b37
  replace f_1 := f_1.u b37
  replace f_3 := f_3.u b37
  exact hk [_] _ rfl hw1
 ·intro wI hbI fo T T2 n2
  rintro _ lo0 hi0 ⟨rfl⟩ ql0 qm0 qh0 -
  try dsimp only at ql0 qm0 qh0 
  try simp only [drew_size] at ql0 qm0 qh0 
  intro hk
  dsimp only [Item.idx, inOrder, nthOp, List.map, List.zip_cons_cons, List.zip_nil_right, List.cons_append, List.nil_append]
  have shbI := hbI.size
  simp only [drew_size] at shbI
  replace hw := hw.trans (hbI.mono hw.size)
  replace f_3 := f_3.u hbI
  replace f_1 := f_1.u hbI
  replace f6 := f6.u hbI
  replace f4 := f4.u hbI
  replace f3 := f3.u hbI
  replace f5 := f5.u hbI
  replace f := f.u hbI
  replace f_2 := f_2.u hbI
  have hw1 := Below.refl wI.heap.size wI
  refine wl_call rfl (C_f3Times _ hxm) ?_
  rintro v38 w38 ⟨rfl, b38⟩
  have s38 := b38.size
  replace hw := hw.trans (b38.mono hw.size)
  replace hw1 := hw1.trans (b38.mono hw1.size)
  replace f_2 := f_2.u b38
  replace f := f.u b38
  replace f5 := f5.u b38
  replace f3 := f3.u b38
  replace f4 := f4.u b38
  replace f6 := f6.u b38
  replace f_1 := f_1.u b38
  replace f_3 := f_3.u b38
  exact hk [_] _ rfl hw1
 ·intro wI hbI fo T T2 n2
  intro hk
  dsimp only [Item.idx, inOrder, nthOp, List.map, List.zip_cons_cons, List.zip_nil_right, List.cons_append, List.nil_append]
  have shbI := hbI.size
  simp only [drew_size] at shbI
  replace hw := hw.trans (hbI.mono hw.size)
  replace f_3 := f_3.u hbI
  replace f_1 := f_1.u hbI
  replace f6 := f6.u hbI
  replace f4 := f4.u hbI
  replace f3 := f3.u hbI
  replace f5 := f5.u hbI
  replace f := f.u hbI
  replace f_2 := f_2.u hbI
  have hw1 := Below.refl wI.heap.size wI
  refine wl_allocg [_, _, _, _, _, _, _, _, _, _] Tryz.zeroValue173 (by rfl) ?_
  rintro g11 w11 f11 b11 i11 i11_1
  have s11 := b11.size
  replace hw := hw.trans (b11.mono hw.size)
  replace hw1 := hw1.trans (b11.mono hw1.size)
  replace f_2 := f_2.u b11
  replace f := f.u b11
  replace f5 := f5.u b11
  replace f3 := f3.u b11
  replace f4 := f4.u b11
  replace f6 := f6.u b11
  replace f_1 := f_1.u b11
  replace f_3 := f_3.u b11
  exact hk [_] _ ⟨_, rfl, f11, by omega, by omega⟩ hw1
 intro wE hbE
 rintro _ lo0 hi0 ⟨rfl⟩ ql0 qm0 qh0 -
 rintro _ lo1 hi1 ⟨rfl⟩ ql1 qm1 qh1 ⟨qa1_0, -⟩
 rintro _ lo2 hi2 ⟨g11, rfl, f11, f11_1, f11_2⟩ ql2 qm2 qh2 ⟨qa2_1, qa2_0, -⟩
 try dsimp only at ql0 qm0 qh0  ql1 qm1 qh1 qa1_0 ql2 qm2 qh2 qa2_0 qa2_1
 try simp only [drew_size] at ql0 qm0 qh0  ql1 qm1 qh1 qa1_0 ql2 qm2 qh2 qa2_0 qa2_1
 dsimp only [given, Item.idx, inOrder, nthOp, List.map, List.zip_cons_cons, List.zip_nil_right]
 have shbE_1 := hbE.size
 simp only [drew_size] at shbE_1
 replace hw := hw.trans (hbE.mono hw.size)
 replace f_3 := f_3.u hbE
 replace f_1 := f_1.u hbE
 replace f6 := f6.u hbE
 replace f4 := f4.u hbE
 replace f3 := f3.u hbE
 replace f5 := f5.u hbE
 replace f := f.u hbE
 replace f_2 := f_2.u hbE
 refine wl_stW0 rfl f11 rfl (by rfl) ?_
 rintro w_5 f_4 g_4 e_4
 have s_4 := g_4.size
 replace hw := hw.trans (below_of_grownBy g_4.g hw.size (by omega))
 replace f_2 := f_2.k g_4.g (ap_some (by omega))
 replace f := f.k g_4.g (ap_some (by omega))
 replace f5 := f5.k g_4.g (ap_some (by omega))
 replace f3 := f3.k g_4.g (ap_some (by omega))
 replace f4 := f4.k g_4.g (ap_some (by omega))
 replace f6 := f6.k g_4.g (ap_some (by omega))
 replace f_1 := f_1.k g_4.g (ap_some (by omega))
 replace f_3 := f_3.k g_4.g (ap_some (by omega))
 clear f11
 refine wl_nild ?_
 refine rk_seq ?_
 refine rk_drawo (id := 5) (none) [0, 0, 3, 0, 0, 28, 0, 0, 231, 511] [0, 0, 3, 0, 0, 31, 0, 0, 255, 511] 996 196 [0, 1, 3, 4] [(.s, 0), (.s, 1), (.s, 3), (.s, 4), (.f 27 996 196, 6)] (by kernel_rfl) (by kernel_rfl) (by kernel_rfl) (by kernel_rfl) (by kernel_rfl) ?_
 dsimp only [inOrder, nthOp]
 replace hw := hw.drew
 replace f_3 := f_3.d
 replace f_1 := f_1.d
 replace f6 := f6.d
 replace f4 := f4.d
 replace f3 := f3.d
 replace f5 := f5.d
 replace f := f.d
 replace f_2 := f_2.d
 replace f_4 := f_4.d
 refine wl_s (fun _ hk => (o_loadag Tryz.isAgg173 Tryz.sizeOf173 rfl (f_1.u (below_of_grown_none hk)) vI10)) ?_
 refine wl_s (fun _ hk => (o_loadag Tryz.isAgg173 Tryz.sizeOf173 rfl (f_4.u (below_of_grown_none hk)) vI10)) ?_
 refine wl_s (fun _ hk => (o_loadag Tryz.isAgg173 Tryz.sizeOf173 rfl (f_1.u (below_of_grown_none hk)) vI10)) ?_
 refine wl_s (fun _ hk => (o_loadag Tryz.isAgg173 Tryz.sizeOf173 rfl (f_4.u (below_of_grown_none hk)) vI10)) ?_
 refine wl_conc [⟨2, [], [41], [], fun vs w' lo hi => vs = [.agg (vI xf.1).toArray]⟩, ⟨5, [], [44], [0], fun vs w' lo hi => vs = [.agg (vI xg.1).toArray]⟩, ⟨6, [], [12], [], fun vs w' lo hi => ∃ (g12 : Nat), vs = [.pointer (some ⟨g12, 0, none⟩)] ∧ Blk w' g12 173 (vI (List.replicate 10 0)) ∧ lo ≤ g12 ∧ g12 < hi⟩, ⟨7, [], [13], [], fun vs w' lo hi => ∃ (g13 : Nat), vs = [.pointer (some ⟨g13, 0, none⟩)] ∧ Blk w' g13 173 (vI (List.replicate 10 0)) ∧ lo ≤ g13 ∧ g13 < hi⟩] [0, 1, 2, 3] [0, 0, 3, 0, 0, 28, 0, 0, 231, 511] [0, 0, 3, 0, 0, 31, 0, 0, 255, 511] [8, 9] [(.l, 8), (.l, 9)] (by kernel_rfl) (by kernel_rfl) (by kernel_rfl) (by kernel_rfl) ⟨fun _ _ _ _ _ h _ => h, fun _ _ _ _ _ h _ => h, fun _ _ _ _ _ h hb => by obtain ⟨g12, e0, g0, g1, g2⟩ := h; exact ⟨g12, e0, g0.u hb, g1, g2⟩, fun _ _ _ _ _ h hb => by obtain ⟨g13, e0, g0, g1, g2⟩ := h; exact ⟨g13, e0, g0.u hb, g1, g2⟩, trivial⟩ ⟨?_, ?_, ?_, ?_, trivial⟩ ?_
 ·intro wI hbI fo T T2 n2
  intro hk
  dsimp only [Item.idx, inOrder, nthOp, List.map, List.zip_cons_cons, List.zip_nil_right, List.cons_append, List.nil_append]
  have shbI := hbI.size
  simp only [drew_size] at shbI
  replace hw := hw.trans (hbI.mono hw.size)
  replace f_4 := f_4.u hbI
  replace f_2 := f_2.u hbI
  replace f := f.u hbI
  replace f5 := f5.u hbI
  replace f3 := f3.u hbI
  replace f4 := f4.u hbI
  replace f6 := f6.u hbI
  replace f_1 := f_1.u hbI
  replace f_3 := f_3.u hbI
  have hw1 := Below.refl wI.heap.size wI
  refine wl_call rfl (C_f3Minus _ hxf) ?_ (hq := .inr fun _ _ h => grown_of_below h.2 _)
  rintro v41 w41 ⟨rfl, b41⟩
  have s41 := b41.size
  replace hw := hw.trans (b41.mono hw.size)
  replace hw1 := hw1.trans (b41.mono hw1.size)
  replace f_3 := f_3.u b41
  replace f_1 := f_1.u b41
  replace f6 := f6.u b41
  replace f4 := f4.u b41
  replace f3 := f3.u b41
  replace f5 := f5.u b41
  replace f := f.u b41
  replace f_2 := f_2.u b41
  replace f_4 := f_4.u b41
  exact hk [_] _ rfl hw1
 ·intro wI hbI fo T T2 n2
  rintro _ lo0 hi0 ⟨rfl⟩ ql0 qm0 qh0 -
  try dsimp only at ql0 qm0 qh0 
  try simp only [drew_size] at ql0 qm0 qh0 
  intro hk
  dsimp only [Item.idx, inOrder, nthOp, List.map, List.zip_cons_cons, List.zip_nil_right, List.cons_append, List.nil_append]
  have shbI := hbI.size
  simp only [drew_size] at shbI
  replace hw := hw.trans (hbI.mono hw.size)
  replace f_4 := f_4.u hbI
  replace f_2 := f_2.u hbI
  replace f := f.u hbI
  replace f5 := f5.u hbI
  replace f3 := f3.u hbI
  replace f4 := f4.u hbI
  replace f6 := f6.u hbI
  replace f_1 := f_1.u hbI
  replace f_3 := f_3.u hbI
  have hw1 := Below.refl wI.heap.size wI
  refine wl_call rfl (C_f3Plus _ hxg) ?_
  rintro v44 w44 ⟨rfl, b44⟩
  have s44 := b44.size
  replace hw := hw.trans (b44.mono hw.size)
  replace hw1 := hw1.trans (b44.mono hw1.size)
  replace f_3 := f_3.u b44
  replace f_1 := f_1.u b44
  replace f6 := f6.u b44
  replace f4 := f4.u b44
  replace f3 := f3.u b44
  replace f5 := f5.u b44
  replace f := f.u b44
  replace f_2 := f_2.u b44
  replace f_4 := f_4.u b44
  exact hk [_] _ rfl hw1
 ·intro wI hbI fo T T2 n2
  intro hk
  dsimp only [Item.idx, inOrder, nthOp, List.map, List.zip_cons_cons, List.zip_nil_right, List.cons_append, List.nil_append]
  have shbI := hbI.size
  simp only [drew_size] at shbI
  replace hw := hw.trans (hbI.mono hw.size)
  replace f_4 := f_4.u hbI
  replace f_2 := f_2.u hbI
  replace f := f.u hbI
  replace f5 := f5.u hbI
  replace f3 := f3.u hbI
  replace f4 := f4.u hbI
  replace f6 := f6.u hbI
  replace f_1 := f_1.u hbI
  replace f_3 := f_3.u hbI
  have hw1 := Below.refl wI.heap.size wI
  refine wl_allocg [_, _, _, _, _, _, _, _, _, _] Tryz.zeroValue173 (by rfl) ?_
  rintro g12 w12 f12 b12 i12 i12_1
  have s12 := b12.size
  replace hw := hw.trans (b12.mono hw.size)
  replace hw1 := hw1.trans (b12.mono hw1.size)
  replace f_3 := f_3.u b12
  replace f_1 := f_1.u b12
  replace f6 := f6.u b12
  replace f4 := f4.u b12
  replace f3 := f3.u b12
  replace f5 := f5.u b12
  replace f := f.u b12
  replace f_2 := f_2.u b12
  replace f_4 := f_4.u b12
  exact hk [_] _ ⟨_, rfl, f12, by omega, by omega⟩ hw1
 ·intro wI hbI fo T T2 n2
  intro hk
  dsimp only [Item.idx, inOrder, nthOp, List.map, List.zip_cons_cons, List.zip_nil_right, List.cons_append, List.nil_append]
  have shbI := hbI.size
  simp only [drew_size] at shbI
  replace hw := hw.trans (hbI.mono hw.size)
  replace f_4 := f_4.u hbI
  replace f_2 := f_2.u hbI
  replace f := f.u hbI
  replace f5 := f5.u hbI
  replace f3 := f3.u hbI
  replace f4 := f4.u hbI
  replace f6 := f6.u hbI
  replace f_1 := f_1.u hbI
  replace f_3 := f_3.u hbI
  have hw1 := Below.refl wI.heap.size wI
  refine wl_allocg [_, _, _, _, _, _, _, _, _, _] Tryz.zeroValue173 (by rfl) ?_
  rintro g13 w13 f13 b13 i13 i13_1
  have s13 := b13.size
  replace hw := hw.trans (b13.mono hw.size)
  replace hw1 := hw1.trans (b13.mono hw1.size)
  replace f_3 := f_3.u b13
  replace f_1 := f_1.u b13
  replace f6 := f6.u b13
  replace f4 := f4.u b13
  replace f3 := f3.u b13
  replace f5 := f5.u b13
  replace f := f.u b13
  replace f_2 := f_2.u b13
  replace f_4 := f_4.u b13
  exact hk [_] _ ⟨_, rfl, f13, by omega, by omega⟩ hw1
 intro wE hbE
 rintro _ lo0 hi0 ⟨rfl⟩ ql0 qm0 qh0 -
 rintro _ lo1 hi1 ⟨rfl⟩ ql1 qm1 qh1 ⟨qa1_0, -⟩
 rintro _ lo2 hi2 ⟨g12, rfl, f12, f12_1, f12_2⟩ ql2 qm2 qh2 ⟨qa2_1, qa2_0, -⟩
 rintro _ lo3 hi3 ⟨g13, rfl, f13, f13_1, f13_2⟩ ql3 qm3 qh3 ⟨qa3_2, qa3_1, qa3_0, -⟩
 try dsimp only at ql0 qm0 qh0  ql1 qm1 qh1 qa1_0 ql2 qm2 qh2 qa2_0 qa2_1 ql3 qm3 qh3 qa3_0 qa3_1 qa3_2
 try simp only [drew_size] at ql0 qm0 qh0  ql1 qm1 qh1 qa1_0 ql2 qm2 qh2 qa2_0 qa2_1 ql3 qm3 qh3 qa3_0 qa3_1 qa3_2
 dsimp only [given, Item.idx, inOrder, nthOp, List.map, List.zip_cons_cons, List.zip_nil_right]
 have shbE_2 := hbE.size
 simp only [drew_size] at shbE_2
 replace hw := hw.trans (hbE.mono hw.size)
 replace f_4 := f_4.u hbE
 replace f_2 := f_2.u hbE
 replace f := f.u hbE
 replace f5 := f5.u hbE
 replace f3 := f3.u hbE
 replace f4 := f4.u hbE
 replace f6 := f6.u hbE
 replace f_1 := f_1.u hbE
 replace f_3 := f_3.u hbE
 refine wl_stW0 rfl f12 rfl (by rfl) ?_
 rintro w_6 f_5 g_5 e_5
 have s_5 := g_5.size
 replace hw := hw.trans (below_of_grownBy g_5.g hw.size (by omega))
 replace f_3 := f_3.k g_5.g (ap_some (by omega))
 replace f_1 := f_1.k g_5.g (ap_some (by omega))
 replace f6 := f6.k g_5.g (ap_some (by omega))
 replace f4 := f4.k g_5.g (ap_some (by omega))
 replace f3 := f3.k g_5.g (ap_some (by omega))
 replace f5 := f5.k g_5.g (ap_some (by omega))
 replace f := f.k g_5.g (ap_some (by omega))
 replace f_2 := f_2.k g_5.g (ap_some (by omega))
 replace f_4 := f_4.k g_5.g (ap_some (by omega))
 replace f13 := f13.k g_5.g (ap_some (by omega))
 clear f12
 refine wl_stW0 rfl f13 rfl (by rfl) ?_
 rintro w_7 f_6 g_6 e_6
 have s_6 := g_6.size
 replace hw := hw.trans (below_of_grownBy g_6.g hw.size (by omega))
 replace f_4 := f_4.k g_6.g (ap_some (by omega))
 replace f_2 := f_2.k g_6.g (ap_some (by omega))
 replace f := f.k g_6.g (ap_some (by omega))
 replace f5 := f5.k g_6.g (ap_some (by omega))
 replace f3 := f3.k g_6.g (ap_some (by omega))
 replace f4 := f4.k g_6.g (ap_some (by omega))
 replace f6 := f6.k g_6.g (ap_some (by omega))
 replace f_1 := f_1.k g_6.g (ap_some (by omega))
 replace f_3 := f_3.k g_6.g (ap_some (by omega))
 replace f_5 := f_5.k g_6.g (ap_some (by omega))
 clear f13
 refine wl_nild ?_
 refine zs ?_
 refine wl_r (o_loadag Tryz.isAgg173 Tryz.sizeOf173 rfl f_2 vI10) ?_
 refine wl_r (o_loadag Tryz.isAgg173 Tryz.sizeOf173 rfl f_3 vI10) ?_
 refine wl_call rfl (C_f3Plus _ hbo) ?_
 rintro v47 w47 ⟨rfl, b47⟩
 have s47 := b47.size
 replace hw := hw.trans (b47.mono hw.size)
 replace f_5 := f_5.u b47
 replace f_3 := f_3.u b47
 replace f_1 := f_1.u b47
 replace f6 := f6.u b47
 replace f4 := f4.u b47
 replace f3 := f3.u b47
 replace f5 := f5.u b47
 replace f := f.u b47
 replace f_2 := f_2.u b47
 replace f_4 := f_4.u b47
 replace f_6 := f_6.u b47
 refine wl_allocg [_, _, _, _, _, _, _, _, _, _] Tryz.zeroValue173 (by rfl) ?_
 rintro g14 w14 f14 b14 i14 i14_1
 have s14 := b14.size
 replace hw := hw.trans (b14.mono hw.size)
 replace f_6 := f_6.u b14
 replace f_4 := f_4.u b14
 replace f_2 := f_2.u b14
 replace f := f.u b14
 replace f5 := f5.u b14
 replace f3 := f3.u b14
 replace f4 := f4.u b14
 replace f6 := f6.u b14
 replace f_1 := f_1.u b14
 replace f_3 := f_3.u b14
 replace f_5 := f_5.u b14
 refine wl_stW0 rfl f14 rfl (by rfl) ?_
 rintro w_8 f_7 g_7 e_7
 have s_7 := g_7.size
 replace hw := hw.trans (below_of_grownBy g_7.g hw.size (by omega))
 replace f_5 := f_5.k g_7.g (ap_some (by omega))
 replace f_3 := f_3.k g_7.g (ap_some (by omega))
 replace f_1 := f_1.k g_7.g (ap_some (by omega))
 replace f6 := f6.k g_7.g (ap_some (by omega))
 replace f4 := f4.k g_7.g (ap_some (by omega))
 replace f3 := f3.k g_7.g (ap_some (by omega))
 replace f5 := f5.k g_7.g (ap_some (by omega))
 replace f := f.k g_7.g (ap_some (by omega))
 replace f_2 := f_2.k g_7.g (ap_some (by omega))
 replace f_4 := f_4.k g_7.g (ap_some (by omega))
 replace f_6 := f_6.k g_7.g (ap_some (by omega))
 clear f14
 refine wl_nil (rk_seq ?_)
 refine rk_drawo (id := 7) (none) [0, 1, 0, 4, 10, 0, 32, 0, 128, 336, 528, 0, 3072, 0, 16383] [0, 1, 0, 4, 15, 0, 32, 0, 128, 511, 1023, 0, 4095, 0, 16383] 30224 9744 [0, 1, 2, 3, 5, 6, 7, 8, 11] [(.p, 0), (.s, 1), (.p, 2), (.s, 3), (.p, 5), (.s, 6), (.p, 7), (.s, 8), (.s, 11), (.f 2543 30224 9744, 6)] (by kernel_rfl) (by kernel_rfl) (by kernel_rfl) (by kernel_rfl) (by kernel_rfl) ?_
 dsimp only [inOrder, nthOp]
 replace hw := hw.drew
 replace f_6 := f_6.d
 replace f_4 := f_4.d
 replace f_2 := f_2.d
 replace f := f.d
 replace f5 := f5.d
 replace f3 := f3.d
 replace f4 := f4.d
 replace f6 := f6.d
 replace f_1 := f_1.d
 replace f_3 := f_3.d
 replace f_5 := f_5.d
 replace f_7 := f_7.d
 refine zp (o_faddr (s := 177) (i := 0) (off := 0) Tryz.underlying177 rfl Tryz.sizeOf173 rfl rfl rfl) ?_
 refine wl_s (fun _ hk => (o_ldFrX rfl (f4.u (below_of_grown_none hk)))) ?_
 refine zp (o_faddr (s := 177) (i := 1) (off := 10) Tryz.underlying177 rfl Tryz.sizeOf173 rfl rfl rfl) ?_
 refine wl_s (fun _ hk => (o_ldFrY rfl (f4.u (below_of_grown_none hk)))) ?_
 refine zp (o_faddr (s := 177) (i := 0) (off := 0) Tryz.underlying177 rfl Tryz.sizeOf173 rfl rfl rfl) ?_
 refine wl_s (fun _ hk => (o_ldFrX rfl (f5.u (below_of_grown_none hk)))) ?_
 refine zp (o_faddr (s := 177) (i := 1) (off := 10) Tryz.underlying177 rfl Tryz.sizeOf173 rfl rfl rfl) ?_
 refine wl_s (fun _ hk => (o_ldFrY rfl (f5.u (below_of_grown_none hk)))) ?_
 refine wl_s (fun _ hk => (o_loadag Tryz.isAgg173 Tryz.sizeOf173 rfl (f_7.u (below_of_grown_none hk)) vI10)) ?_
 refine wl_conc [⟨4, [], [52], [], fun vs w' lo hi => vs = [.agg (vI s1.1).toArray]⟩, ⟨9, [], [57], [0], fun vs w' lo hi => vs = [.agg (vI s2.1).toArray]⟩, ⟨10, [], [58], [0, 1], fun vs w' lo hi => vs = [.agg (vI t1.1).toArray]⟩, ⟨12, [], [60], [0, 1, 2], fun vs w' lo hi => vs = [.agg (vI cr.1).toArray]⟩, ⟨13, [], [15], [], fun vs w' lo hi => ∃ (g15 : Nat), vs = [.pointer (some ⟨g15, 0, none⟩)] ∧ Blk w' g15 173 (vI (List.replicate 10 0)) ∧ lo ≤ g15 ∧ g15 < hi⟩] [0, 1, 2, 3, 4] [0, 1, 0, 4, 10, 0, 32, 0, 128, 336, 528, 0, 3072, 0, 16383] [0, 1, 0, 4, 15, 0, 32, 0, 128, 511, 1023, 0, 4095, 0, 16383] [14] [(.l, 14)] (by kernel_rfl) (by kernel_rfl) (by kernel_rfl) (by kernel_rfl) ⟨fun _ _ _ _ _ h _ => h, fun _ _ _ _ _ h _ => h, fun _ _ _ _ _ h _ => h, fun _ _ _ _ _ h _ => h, fun _ _ _ _ _ h hb => by obtain ⟨g15, e0, g0, g1, g2⟩ := h; exact ⟨g15, e0, g0.u hb, g1, g2⟩, trivial⟩ ⟨?_, ?_, ?_, ?_, ?_, trivial⟩ ?_
 ·intro wI hbI fo T T2 n2
  intro hk
  dsimp only [Item.idx, inOrder, nthOp, List.map, List.zip_cons_cons, List.zip_nil_right, List.cons_append, List.nil_append]
  have shbI := hbI.size
  simp only [drew_size] at shbI
  replace hw := hw.trans (hbI.mono hw.size)
  replace f_7 := f_7.u hbI
  replace f_5 := f_5.u hbI
  replace f_3 := f_3.u hbI
  replace f_1 := f_1.u hbI
  replace f6 := f6.u hbI
  replace f4 := f4.u hbI
  replace f3 := f3.u hbI
  replace f5 := f5.u hbI
  replace f := f.u hbI
  replace f_2 := f_2.u hbI
  replace f_4 := f_4.u hbI
  replace f_6 := f_6.u hbI
  have hw1 := Below.refl wI.heap.size wI
  refine wl_call rfl (C_f3Plus _ hs1) ?_ (hq := .inr fun _ _ h => grown_of_below h.2 _)
  rintro v52 w52 ⟨rfl, b52⟩
  have s52 := b52.size
  replace hw := hw.trans (b52.mono hw.size)
  replace hw1 := hw1.trans (b52.mono hw1.size)
  replace f_6 := f_6.u b52
  replace f_4 := f_4.u b52
  replace f_2 := f_2.u b52
  replace f := f.u b52
  replace f5 := f5.u b52
  replace f3 := f3.u b52
  replace f4 := f4.u b52
  replace f6 := f6.u b52
  replace f_1 := f_1.u b52
  replace f_3 := f_3.u b52
  replace f_5 := f_5.u b52
  replace f_7 := f_7.u b52
  exact hk [_] _ rfl hw1
 ·intro wI hbI fo T T2 n2
  rintro _ lo0 hi0 ⟨rfl⟩ ql0 qm0 qh0 -
  try dsimp only at ql0 qm0 qh0 
  try simp only [drew_size] at ql0 qm0 qh0 
  intro hk
  dsimp only [Item.idx, inOrder, nthOp, List.map, List.zip_cons_cons, List.zip_nil_right, List.cons_append, List.nil_append]
  have shbI := hbI.size
  simp only [drew_size] at shbI
  replace hw := hw.trans (hbI.mono hw.size)
  replace f_7 := f_7.u hbI
  replace f_5 := f_5.u hbI
  replace f_3 := f_3.u hbI
  replace f_1 := f_1.u hbI
  replace f6 := f6.u hbI
  replace f4 := f4.u hbI
  replace f3 := f3.u hbI
  replace f5 := f5.u hbI
  replace f := f.u hbI
  replace f_2 := f_2.u hbI
  replace f_4 := f_4.u hbI
  replace f_6 := f_6.u hbI
  have hw1 := Below.refl wI.heap.size wI
  refine wl_call rfl (C_f3Plus _ hs2) ?_ (hq := .inr fun _ _ h => grown_of_below h.2 _)
  rintro v57 w57 ⟨rfl, b57⟩
  have s57 := b57.size
  replace hw := hw.trans (b57.mono hw.size)
  replace hw1 := hw1.trans (b57.mono hw1.size)
  replace f_6 := f_6.u b57
  replace f_4 := f_4.u b57
  replace f_2 := f_2.u b57
  replace f := f.u b57
  replace f5 := f5.u b57
  replace f3 := f3.u b57
  replace f4 := f4.u b57
  replace f6 := f6.u b57
  replace f_1 := f_1.u b57
  replace f_3 := f_3.u b57
  replace f_5 := f_5.u b57
  replace f_7 := f_7.u b57
  exact hk [_] _ rfl hw1
 ·intro wI hbI fo T T2 n2
  rintro _ lo0 hi0 ⟨rfl⟩ ql0 qm0 qh0 -
  rintro _ lo1 hi1 ⟨rfl⟩ ql1 qm1 qh1 ⟨qa1_0, -⟩
  try dsimp only at ql0 qm0 qh0  ql1 qm1 qh1 qa1_0
  try simp only [drew_size] at ql0 qm0 qh0  ql1 qm1 qh1 qa1_0
  intro hk
  dsimp only [Item.idx, inOrder, nthOp, List.map, List.zip_cons_cons, List.zip_nil_right, List.cons_append, List.nil_append]
  have shbI := hbI.size
  simp only [drew_size] at shbI
  replace hw := hw.trans (hbI.mono hw.size)
  replace f_7 := f_7.u hbI
  replace f_5 := f_5.u hbI
  replace f_3 := f_3.u hbI
  replace f_1 := f_1.u hbI
  replace f6 := f6.u hbI
  replace f4 := f4.u hbI
  replace f3 := f3.u hbI
  replace f5 := f5.u hbI
  replace f := f.u hbI
  replace f_2 := f_2.u hbI
  replace f_4 := f_4.u hbI
  replace f_6 := f_6.u hbI
  have hw1 := Below.refl wI.heap.size wI
  refine wl_call rfl (C_f3Times _ ht1) ?_ (hq := .inr fun _ _ h => grown_of_below h.2 _)
  rintro v58 w58 ⟨rfl, b58⟩
  have s58 := b58.size
  replace hw := hw.trans (b58.mono hw.size)
  replace hw1 := hw1.trans (b58.mono hw1.size)
  replace f_6 := f_6.u b58
  replace f_4 := f_4.u b58
  replace f_2 := f_2.u b58
  replace f := f.u b58
  replace f5 := f5.u b58
  replace f3 := f3.u b58
  replace f4 := f4.u b58
  replace f6 := f6.u b58
  replace f_1 := f_1.u b58
  replace f_3 := f_3.u b58
  replace f_5 := f_5.u b58
  replace f_7 := f_7.u b58
  exact hk [_] _ rfl hw1
 ·intro wI hbI fo T T2 n2
  rintro _ lo0 hi0 ⟨rfl⟩ ql0 qm0 qh0 -
  rintro _ lo1 hi1 ⟨rfl⟩ ql1 qm1 qh1 ⟨qa1_0, -⟩
  rintro _ lo2 hi2 ⟨rfl⟩ ql2 qm2 qh2 ⟨qa2_1, qa2_0, -⟩
  try dsimp only at ql0 qm0 qh0  ql1 qm1 qh1 qa1_0 ql2 qm2 qh2 qa2_0 qa2_1
  try simp only [drew_size] at ql0 qm0 qh0  ql1 qm1 qh1 qa1_0 ql2 qm2 qh2 qa2_0 qa2_1
  intro hk
  dsimp only [Item.idx, inOrder, nthOp, List.map, List.zip_cons_cons, List.zip_nil_right, List.cons_append, List.nil_append]
  have shbI := hbI.size
  simp only [drew_size] at shbI
  replace hw := hw.trans (hbI.mono hw.size)
  replace f_7 := f_7.u hbI
  replace f_5 := f_5.u hbI
  replace f_3 := f_3.u hbI
  replace f_1 := f_1.u hbI
  replace f6 := f6.u hbI
  replace f4 := f4.u hbI
  replace f3 := f3.u hbI
  replace f5 := f5.u hbI
  replace f := f.u hbI
  replace f_2 := f_2.u hbI
  replace f_4 := f_4.u hbI
  replace f_6 := f_6.u hbI
  have hw1 := Below.refl wI.heap.size wI
  refine wl_call rfl (C_f3Minus _ hcr) ?_
  rintro v60 w60 ⟨rfl, b60⟩
  have s60 := b60.size
  replace hw := hw.trans (b60.mono hw.size)
  replace hw1 := hw1.trans (b60.mono hw1.size)
  replace f_6 := f_6.u b60
  replace f_4 := f_4.u b60
  replace f_2 := f_2.u b60
  replace f := f.u b60
  replace f5 := f5.u b60
  replace f3 := f3.u b60
  replace f4 := f4.u b60
  replace f6 := f6.u b60
  replace f_1 := f_1.u b60
  replace f_3 := f_3.u b60
  replace f_5 := f_5.u b60
  replace f_7 := f_7.u b60
  exact hk [_] _ rfl hw1
 ·intro wI hbI fo T T2 n2
  intro hk
  dsimp only [Item.idx, inOrder, nthOp, List.map, List.zip_cons_cons, List.zip_nil_right, List.cons_append, List.nil_append]
  have shbI := hbI.size
  simp only [drew_size] at shbI
  replace hw := hw.trans (hbI.mono hw.size)
  replace f_7 := f_7.u hbI
  replace f_5 := f_5.u hbI
  replace f_3 := f_3.u hbI
  replace f_1 := f_1.u hbI
  replace f6 := f6.u hbI
  replace f4 := f4.u hbI
  replace f3 := f3.u hbI
  replace f5 := f5.u hbI
  replace f := f.u hbI
  replace f_2 := f_2.u hbI
  replace f_4 := f_4.u hbI
  replace f_6 := f_6.u hbI
  have hw1 := Below.refl wI.heap.size wI
  refine wl_allocg [_, _, _, _, _, _, _, _, _, _] Tryz.zeroValue173 (by rfl) ?_
  rintro g15 w15 f15 b15 i15 i15_1
  have s15 := b15.size
  replace hw := hw.trans (b15.mono hw.size)
  replace hw1 := hw1.trans (b15.mono hw1.size)
  replace f_6 := f_6.u b15
  replace f_4 := f_4.u b15
  replace f_2 := f_2.u b15
  replace f := f.u b15
  replace f5 := f5.u b15
  replace f3 := f3.u b15
  replace f4 := f4.u b15
  replace f6 := f6.u b15
  replace f_1 := f_1.u b15
  replace f_3 := f_3.u b15
  replace f_5 := f_5.u b15
  replace f_7 := f_7.u b15
  exact hk [_] _ ⟨_, rfl, f15, by omega, by omega⟩ hw1
 intro wE hbE
 rintro _ lo0 hi0 ⟨rfl⟩ ql0 qm0 qh0 -
 rintro _ lo1 hi1 ⟨rfl⟩ ql1 qm1 qh1 ⟨qa1_0, -⟩
 rintro _ lo2 hi2 ⟨rfl⟩ ql2 qm2 qh2 ⟨qa2_1, qa2_0, -⟩
 rintro _ lo3 hi3 ⟨rfl⟩ ql3 qm3 qh3 ⟨qa3_2, qa3_1, qa3_0, -⟩
 rintro _ lo4 hi4 ⟨g15, rfl, f15, f15_1, f15_2⟩ ql4 qm4 qh4 ⟨qa4_3, qa4_2, qa4_1, qa4_0, -⟩
 try dsimp only at ql0 qm0 qh0  ql1 qm1 qh1 qa1_0 ql2 qm2 qh2 qa2_0 qa2_1 ql3 qm3 qh3 qa3_0 qa3_1 qa3_2 ql4 qm4 qh4 qa4_0 qa4_1 qa4_2 qa4_3
 try simp only [drew_size] at ql0 qm0 qh0  ql1 qm1 qh1 qa1_0 ql2 qm2 qh2 qa2_0 qa2_1 ql3 qm3 qh3 qa3_0 qa3_1 qa3_2 ql4 qm4 qh4 qa4_0 qa4_1 qa4_2 qa4_3
 dsimp only [given, Item.idx, inOrder, nthOp, List.map, List.zip_cons_cons, List.zip_nil_right]
 have shbE_3 := hbE.size
 simp only [drew_size] at shbE_3
 replace hw := hw.trans (hbE.mono hw.size)
 replace f_7 := f_7.u hbE
 replace f_5 := f_5.u hbE
 replace f_3 := f_3.u hbE
 replace f_1 := f_1.u hbE
 replace f6 := f6.u hbE
 replace f4 := f4.u hbE
 replace f3 := f3.u hbE
 replace f5 := f5.u hbE
 replace f := f.u hbE
 replace f_2 := f_2.u hbE
 replace f_4 := f_4.u hbE
 replace f_6 := f_6.u hbE
 refine wl_stW0 rfl f15 rfl (by rfl) ?_
 rintro w_9 f_8 g_8 e_8
 have s_8 := g_8.size
 replace hw := hw.trans (below_of_grownBy g_8.g hw.size (by omega))
 replace f_6 := f_6.k g_8.g (ap_some (by omega))
 replace f_4 := f_4.k g_8.g (ap_some (by omega))
 replace f_2 := f_2.k g_8.g (ap_some (by omega))
 replace f := f.k g_8.g (ap_some (by omega))
 replace f5 := f5.k g_8.g (ap_some (by omega))
 replace f3 := f3.k g_8.g (ap_some (by omega))
 replace f4 := f4.k g_8.g (ap_some (by omega))
 replace f6 := f6.k g_8.g (ap_some (by omega))
 replace f_1 := f_1.k g_8.g (ap_some (by omega))
 replace f_3 := f_3.k g_8.g (ap_some (by omega))
 replace f_5 := f_5.k g_8.g (ap_some (by omega))
 replace f_7 := f_7.k g_8.g (ap_some (by omega))
 clear f15
 refine wl_nild ?_
 refine rk_seq ?_
 refine rk_drawo (id := 8) (none) [0, 0, 0, 6, 9, 0, 0, 0, 208, 288, 0, 0, 3584, 4624, 16383] [0, 0, 0, 6, 15, 0, 0, 0, 223, 511, 0, 0, 4095, 8191, 16383] 21272 792 [0, 1, 2, 5, 6, 7, 10, 11, 3, 4, 8, 9, 12, 13, 14] [(.s, 0), (.r, 1), (.r, 2), (.s, 5), (.s, 6), (.s, 7), (.s, 10), (.s, 11), (.c, 3), (.c, 4), (.c, 8), (.c, 9), (.l, 12), (.p, 13), (.l, 14)] (by kernel_rfl) (by kernel_rfl) (by kernel_rfl) (by kernel_rfl) (by kernel_rfl) ?_
 dsimp only [inOrder, nthOp]
 replace hw := hw.drew
 replace f_7 := f_7.d
 replace f_5 := f_5.d
 replace f_3 := f_3.d
 replace f_1 := f_1.d
 replace f6 := f6.d
 replace f4 := f4.d
 replace f3 := f3.d
 replace f5 := f5.d
 replace f := f.d
 replace f_2 := f_2.d
 replace f_4 := f_4.d
 replace f_6 := f_6.d
 replace f_8 := f_8.d
 refine wl_s (fun _ hk => (o_loadag Tryz.isAgg173 Tryz.sizeOf173 rfl (f.u (below_of_grown_none hk)) vI10)) ?_
 refine wl_r (o_loadag Tryz.isAgg173 Tryz.sizeOf173 rfl f_5 vI10) ?_
 refine wl_r (o_loadag Tryz.isAgg173 Tryz.sizeOf173 rfl f_8 vI10) ?_
 refine wl_s (fun _ hk => (o_loadag Tryz.isAgg173 Tryz.sizeOf173 rfl (f.u (below_of_grown_none hk)) vI10)) ?_
 refine wl_s (fun _ hk => (o_loadag Tryz.isAgg173 Tryz.sizeOf173 rfl (f_6.u (below_of_grown_none hk)) vI10)) ?_
 refine wl_s (fun _ hk => (o_loadag Tryz.isAgg173 Tryz.sizeOf173 rfl (f_7.u (below_of_grown_none hk)) vI10)) ?_
 refine wl_s (fun _ hk => (o_loadag Tryz.isAgg173 Tryz.sizeOf173 rfl (f_5.u (below_of_grown_none hk)) vI10)) ?_
 refine wl_s (fun _ hk => (o_loadag Tryz.isAgg173 Tryz.sizeOf173 rfl (f_6.u (below_of_grown_none hk)) vI10)) ?_
 refine wl_call rfl (C_f3Times _ hfc) ?_ (hq := .inr fun _ _ h => grown_of_below h.2 _)
 rintro v64 w64 ⟨rfl, b64⟩
 simp only [drew_size] at b64
 have s64 := b64.size
 simp only [drew_size] at s64
 replace hw := hw.trans (b64.mono hw.size)
 replace f_8 := f_8.u b64
 replace f_6 := f_6.u b64
 replace f_4 := f_4.u b64
 replace f_2 := f_2.u b64
 replace f := f.u b64
 replace f5 := f5.u b64
 replace f3 := f3.u b64
 replace f4 := f4.u b64
 replace f6 := f6.u b64
 replace f_1 := f_1.u b64
 replace f_3 := f_3.u b64
 replace f_5 := f_5.u b64
 replace f_7 := f_7.u b64
 refine wl_call rfl (C_f3Times _ hr1) ?_ (hq := .inr fun _ _ h => grown_of_below h.2 _)
 rintro v65 w65 ⟨rfl, b65⟩
 have s65 := b65.size
 replace hw := hw.trans (b65.mono hw.size)
 replace f_7 := f_7.u b65
 replace f_5 := f_5.u b65
 replace f_3 := f_3.u b65
 replace f_1 := f_1.u b65
 replace f6 := f6.u b65
 replace f4 := f4.u b65
 replace f3 := f3.u b65
 replace f5 := f5.u b65
 replace f := f.u b65
 replace f_2 := f_2.u b65
 replace f_4 := f_4.u b65
 replace f_6 := f_6.u b65
 replace f_8 := f_8.u b65
 refine wl_call rfl (C_f3Times _ hgb) ?_ (hq := .inr fun _ _ h => grown_of_below h.2 _)
 rintro v69 w69 ⟨rfl, b69⟩
 have s69 := b69.size
 replace hw := hw.trans (b69.mono hw.size)
 replace f_8 := f_8.u b69
 replace f_6 := f_6.u b69
 replace f_4 := f_4.u b69
 replace f_2 := f_2.u b69
 replace f := f.u b69
 replace f5 := f5.u b69
 replace f3 := f3.u b69
 replace f4 := f4.u b69
 replace f6 := f6.u b69
 replace f_1 := f_1.u b69
 replace f_3 := f_3.u b69
 replace f_5 := f_5.u b69
 replace f_7 := f_7.u b69
 refine wl_call rfl (C_f3Times _ hr2') ?_ (hq := .inr fun _ _ h => grown_of_below h.2 _)
 rintro v70 w70 ⟨rfl, b70⟩
 have s70 := b70.size
 replace hw := hw.trans (b70.mono hw.size)
 replace f_7 := f_7.u b70
 replace f_5 := f_5.u b70
 replace f_3 := f_3.u b70
 replace f_1 := f_1.u b70
 replace f6 := f6.u b70
 replace f4 := f4.u b70
 replace f3 := f3.u b70
 replace f5 := f5.u b70
 replace f := f.u b70
 replace f_2 := f_2.u b70
 replace f_4 := f_4.u b70
 replace f_6 := f_6.u b70
 replace f_8 := f_8.u b70
 refine wl_call rfl (C_f3Times _ hr3) ?_
 rintro v73 w73 ⟨rfl, b73⟩
 have s73 := b73.size
 replace hw := hw.trans (b73.mono hw.size)
 replace f_8 := f_8.u b73
 replace f_6 := f_6.u b73
 replace f_4 := f_4.u b73
 replace f_2 := f_2.u b73
 replace f := f.u b73
 replace f5 := f5.u b73
 replace f3 := f3.u b73
 replace f4 := f4.u b73
 replace f6 := f6.u b73
 replace f_1 := f_1.u b73
 replace f_3 := f_3.u b73
 replace f_5 := f_5.u b73
 replace f_7 := f_7.u b73
 refine zp (o_bldFr rfl rfl rfl) ?_
 refine wl_stFr rfl f6 rfl (by rfl) ?_
 rintro w_10 f_9 g_9 e_9
 have s_9 := g_9.size
 replace hw := hw.trans (below_of_grownBy g_9.g hw.size (by omega))
 replace f_7 := f_7.k g_9.g (ap_some (by omega))
 replace f_5 := f_5.k g_9.g (ap_some (by omega))
 replace f_3 := f_3.k g_9.g (ap_some (by omega))
 replace f_1 := f_1.k g_9.g (ap_some (by omega))
 replace f4 := f4.k g_9.g (ap_some (by omega))
 replace f3 := f3.k g_9.g (ap_some (by omega))
 replace f5 := f5.k g_9.g (ap_some (by omega))
 replace f := f.k g_9.g (ap_some (by omega))
 replace f_2 := f_2.k g_9.g (ap_some (by omega))
 replace f_4 := f_4.k g_9.g (ap_some (by omega))
 replace f_6 := f_6.k g_9.g (ap_some (by omega))
 replace f_8 := f_8.k g_9.g (ap_some (by omega))
 clear f6
 refine wl_nild ?_
 refine ret_cell rfl rfl Tryz.isAgg177 Tryz.sizeOf177 (by assumption) (by first | exact vI10 | exact b32 | exact ptC_len _ | exact frC_len _ | rfl) ?_
 exact ⟨by rw [hr2], hw⟩
end Go.Proofs.YtahkeoegbjopfaaGreat
