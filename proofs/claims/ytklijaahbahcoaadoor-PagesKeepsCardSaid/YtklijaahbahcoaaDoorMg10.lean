/-
  PagesKeeps: the walk.
-/
import Derived.Test.YtklijaahbahcoaaDoorMg9
namespace Go.Proofs.YtklijaahbahcoaaDoor
set_option maxRecDepth 100000
open Go.RowKit
theorem gAt_set_none {α : Type} {C : List (Option α)} {k : Nat} (h : gAt C (k : Int) = none) : C.set k none = C := by
  apply List.ext_getElem (by rw [List.length_set])
  intro j h1 h2
  rw [List.getElem_set]
  split
  · rename_i e
    subst e
    rw [gAt_nat h2] at h
    exact h.symm
  · rfl
/-- Byte lists of a map, all in blocks from lo and below hi. -/
def CvB (w : World) (lo hi : Nat) (C : List (Option Value)) (H : List (Option By)) : Prop := ∃ w0, Cv w0 lo C H ∧ w0.heap.size ≤ hi ∧ w0.heap.size ≤ w.heap.size ∧ ∀ k, lo ≤ k → TyAt w0 k 5 → w.heap[k]? = w0.heap[k]?
section
variable {w w' : World} {lo hi lo' hi' b : Nat} {C : List (Option Value)} {H : List (Option By)} {row : Option Nat} {e' : TypeId}
theorem Cv.to_B (h : Cv w lo C H) (hs : w.heap.size ≤ hi) : CvB w lo hi C H := ⟨w, h, hs, Nat.le_refl _, fun _ _ _ => rfl⟩
theorem CvB.to_Cv (h : CvB w lo hi C H) : Cv w lo C H := by
  obtain ⟨w0, hc, _, _, hk⟩ := h
  exact ⟨hc.len, fun i h1 h2 => (hc.el i h1 h2).keep hk⟩
theorem CvB.step (h : CvB w lo hi C H) (hs : w.heap.size ≤ w'.heap.size) (hk : ∀ k, lo ≤ k → k < hi → k < w.heap.size → TyAt w k 5 → w'.heap[k]? = w.heap[k]?) : CvB w' lo hi C H := by
  obtain ⟨w0, hc, h1, h2, h3⟩ := h
  refine ⟨w0, hc, h1, Nat.le_trans h2 hs, fun k hl ht => ?_⟩
  have hlt := ht.lt
  rw [hk k hl (by omega) (by omega) (ht.keep (h3 k hl ht)), h3 k hl ht]
theorem CvB.u (h : CvB w lo hi C H) (hb : Below w.heap.size w w') : CvB w' lo hi C H := h.step hb.size (fun k _ _ hl _ => hb.block k hl)
theorem CvB.d (h : CvB w lo hi C H) : CvB w.drew lo hi C H := h.u (below_drew w)
theorem CvB.k (h : CvB w lo hi C H) (hg : w.grownBy w' row) (ha : Ap row lo hi) : CvB w' lo hi C H :=
  h.step hg.size (fun k h1 h2 hl _ => hg.block k hl (fun e => by have := ha k e.symm; omega))
theorem CvB.y (h : CvB w lo hi C H) (hg : Grew w w' e' row) (hne : e' ≠ 5) : CvB w' lo hi C H :=
  h.step hg.g.size (fun k _ _ hl ht => hg.g.block k hl (fun e => by
    obtain ⟨_, _, h3⟩ := ht
    obtain ⟨_, _, h4⟩ := hg.ty k e.symm
    rw [h3] at h4
    injection h4 with h4
    injection h4 with _ h4
    exact hne h4.symm))
theorem CvB.m (h : CvB w lo hi C H) (hg : GrewM w w' b) : CvB w' lo hi C H :=
  h.step hg.g.size (fun k _ _ hl ht => hg.g.block k hl (fun e => by
    obtain ⟨_, _, h3⟩ := ht
    obtain ⟨_, _, h4⟩ := hg.m
    injection e with e
    subst e
    rw [h3] at h4
    cases h4))
theorem CvB.c (h : CvB w lo hi C H) (hc : Chg lo' hi' w w') (ha : hi ≤ lo' ∨ hi' ≤ lo) : CvB w' lo hi C H :=
  h.step hc.size (fun k h1 h2 hl _ => hc.block k hl (by omega))
end
theorem Tryd.zeroBs (w : World) : (zeroValue 22).run Tryd.prog w = .ok (.slice none 0 0) w := by kernel_rfl
section
variable {fn : Func} {F : Ending → World → Prop} {N : Nat} {ks : List K} {ops : Array Oper} {tg : Tags} {l : List Oper} {fr : Fr} {w : World} {ty : TypeId} {pos : String} {aft : Array Edge} {gd : Option (Nat × Bool)} {d b : Nat} {x y z : Operand} {C : List (Option Value)} {q : Int} {s : Value}
--@ rule lookup r o_lookH1
theorem o_lookH1 (hx : fr.ev x = some (.map (some b))) (hy : fr.ev y = some (.int .i64 q)) (hS : MapV w b C) (hr : gAt C q = some s) (hq : (Lit.int .i64 q).wf = true) :
    OpV Tryd.prog N fr w (.lookup 47 x y false) ty s w := o_lookV Tryd.underlying47 Tryd.zeroBs hx hy hS hr hq
--@ rule lookup r o_lookH0
theorem o_lookH0 (hx : fr.ev x = some (.map (some b))) (hy : fr.ev y = some (.int .i64 q)) (hS : MapV w b C) (hr : gAt C q = none) (hq : (Lit.int .i64 q).wf = true) :
    OpV Tryd.prog N fr w (.lookup 47 x y false) ty (.slice none 0 0) w := o_lookV Tryd.underlying47 Tryd.zeroBs hx hy hS hr hq
--@ rule lookup r o_lookY1
theorem o_lookY1 (hx : fr.ev x = some (.map (some b))) (hy : fr.ev y = some (.int .i64 q)) (hS : MapV w b C) (hr : gAt C q = some s) (hq : (Lit.int .i64 q).wf = true) :
    OpV Tryd.prog N fr w (.lookup 48 x y false) ty s w := o_lookV Tryd.underlying48 Tryd.zeroValue3 hx hy hS hr hq
--@ rule lookup r o_lookY0
theorem o_lookY0 (hx : fr.ev x = some (.map (some b))) (hy : fr.ev y = some (.int .i64 q)) (hS : MapV w b C) (hr : gAt C q = none) (hq : (Lit.int .i64 q).wf = true) :
    OpV Tryd.prog N fr w (.lookup 48 x y false) ty (.int .i64 0) w := o_lookV Tryd.underlying48 Tryd.zeroValue3 hx hy hS hr hq
--@ rule mapUpdate l wl_putH
theorem wl_putH {i : Nat} (hx : fr.ev x = some (.map (some b))) (hy : fr.ev y = some (.int .i64 q)) (hS : MapV w b C) (hz : fr.ev z = some s) (hq : q = (i : Int)) (hi : i < C.length) (hL : C.length ≤ 1000000)
    (hk : ∀ w', MapV w' b (C.set i (some s)) → GrewM w w' b → w'.heap.size = w.heap.size → WL Tryd.prog fn F N ks ops tg.tail l fr w')
    (ht : tg.loud = true := by rfl) (hg : onG ops fr gd = true := by rfl) (hq : tg.calm = false ∨ tg.rw.may (some b) := by exact .inl rfl) : WL Tryd.prog fn F N ks ops tg (⟨none, .mapUpdate 47 x y z, ty, pos, aft, gd⟩ :: l) fr w := by
  rename_i hq0
  exact wl_putV Tryd.underlying47 hx hy hS hz hq0 hi hL hk ht hg hq
--@ rule mapUpdate l wl_putY
theorem wl_putY {i : Nat} (hx : fr.ev x = some (.map (some b))) (hy : fr.ev y = some (.int .i64 q)) (hS : MapV w b C) (hz : fr.ev z = some s) (hq : q = (i : Int)) (hi : i < C.length) (hL : C.length ≤ 1000000)
    (hk : ∀ w', MapV w' b (C.set i (some s)) → GrewM w w' b → w'.heap.size = w.heap.size → WL Tryd.prog fn F N ks ops tg.tail l fr w')
    (ht : tg.loud = true := by rfl) (hg : onG ops fr gd = true := by rfl) (hq : tg.calm = false ∨ tg.rw.may (some b) := by exact .inl rfl) : WL Tryd.prog fn F N ks ops tg (⟨none, .mapUpdate 48 x y z, ty, pos, aft, gd⟩ :: l) fr w := by
  rename_i hq0
  exact wl_putV Tryd.underlying48 hx hy hS hz hq0 hi hL hk ht hg hq
--@ rule! delete l wl_delItH
theorem wl_delItH {i r k : Nat} {lf : Int → Bool} (hx : fr.ev x = some (.map (some b))) (hy : fr.ev y = some (.int .i64 q)) (hI : IterV w r b C lf k) (hq : q = (i : Int)) (hi : i < C.length) (hL : C.length ≤ 1000000)
    (hk : ∀ w' k', IterV w' r b (C.set i none) (fun z => lf z && decide (z ≠ i)) k' → k' ≤ k → GrewM w w' b → w'.heap.size = w.heap.size → WL Tryd.prog fn F N ks ops tg.tail l fr w')
    (ht : tg.loud = true := by rfl) (hg : onG ops fr gd = true := by rfl) (hq : tg.calm = false ∨ some b = tg.row := by exact .inl rfl) : WL Tryd.prog fn F N ks ops tg (⟨none, .call { callee := .builtin .delete, args := #[x, y], argTypes := #[47, 3] }, ty, pos, aft, gd⟩ :: l) fr w := by
  rename_i hq0
  exact wl_delIterV Tryd.underlying47 hx hy hI hq0 hi hL hk ht hg hq
--@ rule delete l wl_delH
theorem wl_delH {i : Nat} (hx : fr.ev x = some (.map (some b))) (hy : fr.ev y = some (.int .i64 q)) (hS : MapV w b C) (hq : q = (i : Int)) (hi : i < C.length) (hL : C.length ≤ 1000000)
    (hk : ∀ w', MapV w' b (C.set i none) → GrewM w w' b → w'.heap.size = w.heap.size → WL Tryd.prog fn F N ks ops tg.tail l fr w')
    (ht : tg.loud = true := by rfl) (hg : onG ops fr gd = true := by rfl) (hq : tg.calm = false ∨ some b = tg.row := by exact .inl rfl) : WL Tryd.prog fn F N ks ops tg (⟨none, .call { callee := .builtin .delete, args := #[x, y], argTypes := #[47, 3] }, ty, pos, aft, gd⟩ :: l) fr w := by
  rename_i hq0
  exact wl_delV Tryd.underlying47 hx hy hS hq0 hi hL hk ht hg hq
--@ rule delete l wl_delY
theorem wl_delY {i : Nat} (hx : fr.ev x = some (.map (some b))) (hy : fr.ev y = some (.int .i64 q)) (hS : MapV w b C) (hq : q = (i : Int)) (hi : i < C.length) (hL : C.length ≤ 1000000)
    (hk : ∀ w', MapV w' b (C.set i none) → GrewM w w' b → w'.heap.size = w.heap.size → WL Tryd.prog fn F N ks ops tg.tail l fr w')
    (ht : tg.loud = true := by rfl) (hg : onG ops fr gd = true := by rfl) (hq : tg.calm = false ∨ some b = tg.row := by exact .inl rfl) : WL Tryd.prog fn F N ks ops tg (⟨none, .call { callee := .builtin .delete, args := #[x, y], argTypes := #[48, 3] }, ty, pos, aft, gd⟩ :: l) fr w := by
  rename_i hq0
  exact wl_delV Tryd.underlying48 hx hy hS hq0 hi hL hk ht hg hq
--@ rule len r o_lenH
theorem o_lenH {k : Nat} (hx : fr.ev x = some (.map (some b))) (hS : MapV w b C) (hk : cntG C = k) : OpV Tryd.prog N fr w (.call { callee := .builtin .len, args := #[x], argTypes := #[47] }) ty (.int .i64 (k : Int)) w := o_lenV Tryd.underlying47 hx hS hk
end
set_option maxRecDepth 100000 in
set_option maxHeartbeats 4000000 in
theorem C_PagesKeeps {n0 : Int} {v : Value} {L : List PAct} (w : World) (wn : (Lit.int .i64 n0).wf = true) (hL0 : PasV w L v) (hT : TabAt0 w 0) :
    CallsR Tryd.prog 5 [.int .i64 n0, v] w fun v w' => v = .bool true ∧ Below w.heap.size w w' := by
  obtain ⟨A1, c1, rfl, hL, hLc, hLm⟩ := hL0
  have hgd : 0 < w.heap.size := hT.lt
  have w30 : (Lit.int .i64 30).wf = true := by decide
  have w7 : (Lit.int .i64 7).wf = true := by decide
  have hpk := pick_range n0 30 (by omega)
  obtain ⟨p, hp⟩ : ∃ p, pick n0 30 = p := ⟨_, rfl⟩
  rw [hp] at hpk
  obtain ⟨n, hn⟩ : ∃ n : Nat, 1 + p = (n : Int) := ⟨(1 + p).toNat, by omega⟩
  have hn2 : 2 * (1 + p) = ((2 * n : Nat) : Int) := by omega
  have hinv := PgInv.start n
  obtain ⟨Z, hZ⟩ : ∃ Z : List Sec, List.replicate (2 * n) z256 = Z := ⟨_, rfl⟩
  obtain ⟨Q, hQ⟩ : ∃ Q : List (Option Sec), List.replicate (2 * n) none = Q := ⟨_, rfl⟩
  have hlZ : Z.length = 2 * n := by rw [← hZ, List.length_replicate]
  have hZ2 : Z.length / 2 = n := by omega
  rw [hZ, hQ] at hinv
  obtain ⟨H0, hH0⟩ : ∃ H : List (Option By), List.replicate n none = H := ⟨_, rfl⟩
  have hU0 : markAll (List.replicate n false) [] = usH H0 := by rw [← hH0, usH, List.map_replicate]; rfl
  have ho0 : openOk n [] = true := rfl
  refine callsR Tryd.func5 rfl rfl (by kernel_rfl) rfl ?_
  have hw := Below.refl w.heap.size w
  refine rk_seq ?_
  refine rk_region ?_
  refine wl_p (fun _ => o_assign rfl) ?_
  refine wl_nil ?_
  refine rk_seq ?_
  refine rk_seq ?_
  refine rk_region ?_
  refine wl_call rfl (C_lives10 _ hT) ?_
  rintro v25 w25 ⟨rfl, b25⟩
  have s25 := b25.size
  replace hw := hw.trans (b25.mono hw.size)
  refine wl_p (fun _ => o_not rfl) ?_
  refine wl_nil ?_
  refine rk_false rfl ?_
  refine rk_skip ?_
  refine rk_seq ?_
  refine rk_seq ?_
  refine rk_region ?_
  refine wl_p (fun _ => o_move rfl) ?_
  refine wl_call rfl (C_small10 _ (hL.u hw) rfl (by omega)) ?_
  rintro v28 w28 ⟨b28, ⟨rfl, ⟨i28, b28_1⟩⟩⟩
  have s28 := b28_1.size
  replace hw := hw.trans (b28_1.mono hw.size)
  refine wl_p (fun _ => o_not rfl) ?_
  refine wl_nil ?_
  cases b28 with
  | false =>
    refine rk_true rfl ?_
    refine rk_seq ?_
    refine rk_region ?_
    refine wl_p (fun _ => o_assign rfl) ?_
    refine wl_nil ?_
    refine ret1 rfl rfl ?_
    exact ⟨rfl, hw⟩
  | true =>
    have hsL := (show true = true ↔ smallP L by assumption).1 rfl
    have hlL := hsL.1
    refine rk_false rfl ?_
    refine rk_skip ?_
    refine rk_seq ?_
    refine rk_region ?_
    refine wl_p (fun _ => o_move rfl) ?_
    refine wl_call rfl (C_PickR _ hp wn w30) ?_
    rintro v31 w31 ⟨rfl, b31⟩
    have s31 := b31.size
    replace hw := hw.trans (b31.mono hw.size)
    refine wl_p (fun _ => o_add rfl rfl (by omega) (by omega)) ?_
    refine wl_p (fun _ => o_assign rfl) ?_
    refine wl_nil ?_
    refine rk_seq ?_
    refine rk_region ?_
    refine wl_p (fun _ => o_move rfl) ?_
    refine wl_p (fun _ => o_mul rfl rfl (by omega) (by omega)) ?_
    refine wl_call rfl (C_dNewOk _ hn2 hZ hQ (by omega) (by omega)) ?_
    rintro v36 w36 ⟨g36, ⟨rfl, ⟨f36, b36⟩⟩⟩
    have s36 := b36.size
    replace hw := hw.trans (b36.mono hw.size)
    refine wl_p (fun _ => o_move rfl) ?_
    refine wl_p (fun _ => o_ext20 rfl) ?_
    refine wl_p (fun _ => o_ext21 rfl) ?_
    refine wl_p (fun _ => o_assign rfl) ?_
    refine wl_p (fun _ => o_assign rfl) ?_
    refine wl_nil ?_
    refine rk_seq ?_
    refine rk_region ?_
    refine wl_p (fun _ => o_move rfl) ?_
    refine wl_call rfl (C_pOpenOk _ f36 (RZ.nil_) (by rfl) (by omega) hZ2 ho0 hU0) ?_
    rintro v41 w41 ⟨g41, ⟨rfl, ⟨f41, ⟨i41, ⟨i41_1, b41⟩⟩⟩⟩⟩
    have s41 := b41.size
    replace hw := hw.trans (b41.mono hw.size)
    replace f36 := f36.u b41
    refine wl_p (fun _ => o_move rfl) ?_
    refine wl_p (fun _ => o_ext20 rfl) ?_
    refine wl_p (fun _ => o_ext21 rfl) ?_
    refine wl_p (fun _ => o_assign rfl) ?_
    refine wl_p (fun _ => o_assign rfl) ?_
    refine wl_nil ?_
    refine rk_seq ?_
    refine rk_seq ?_
    refine rk_region ?_
    refine wl_p (fun _ => o_move rfl) ?_
    refine wl_p (fun _ => o_ne rfl rfl) ?_
    refine wl_nil ?_
    refine rk_false rfl ?_
    refine rk_skip ?_
    refine rk_seq ?_
    refine rk_region ?_
    refine wl_makeV n Tryd.underlying47 ?_
    rintro bh w46 f46 b46 i46 j46
    have sb46 := b46.size
    replace hw := hw.trans (b46.mono hw.size)
    replace f36 := f36.u b46
    replace f41 := f41.u b46
    refine wl_makeV n Tryd.underlying48 ?_
    rintro bs w47 f47 b47 i47 j47
    have sb47 := b47.size
    replace hw := hw.trans (b47.mono hw.size)
    replace f41 := f41.u b47
    replace f36 := f36.u b47
    replace f46 := f46.u b47
    refine wl_p (fun _ => o_assign rfl) ?_
    refine wl_p (fun _ => o_assign rfl) ?_
    refine wl_nil ?_
    refine rk_seq ?_
    refine rk_seq ?_
    refine rk_region ?_
    refine wl_p (fun _ => o_assign rfl) ?_
    refine wl_nil ?_
    refine rk_block ?_
    have hs0 := hw.size
    have hc0 : Cv w47 w36.heap.size (List.replicate n none) H0 := by rw [← hH0]; exact Cv.none_ n
    have hinv0 : PgInv n Z Q H0 (List.replicate n none) := by rw [← hH0]; exact hinv
    refine rk_joinf (fun fb fr V => fr = [] ++ fb.drop 9 ∧ Below w.heap.size w V) ?_ (fun ks hj => ?_)
    rotate_left
    · refine rk_loopf (fun fb k fr V => ∃ (i : Nat) (v : Int) (S : List Sec) (C : List (Option Sec)) (H : List (Option By)) (CV Y : List (Option Value)) (g ul uh : Nat), fr = [(11, .int .i64 v), (10, .map (some bs)), (9, .map (some bh)), (7, .pointer (some ⟨g, 0, none⟩))] ++ fb.drop 9 ∧ v = i ∧ i ≤ L.length ∧ k = L.length - i ∧ PgInv n S C H Y ∧ DkAt V w31.heap.size w36.heap.size g36 S C ∧ PgAt V g g36 ul uh (usH H) ∧ MapV V bh CV ∧ Cv V w36.heap.size CV H ∧ MapV V bs Y ∧ w36.heap.size ≤ ul ∧ w36.heap.size ≤ g ∧ (bh < ul ∨ uh ≤ bh) ∧ w47.heap.size ≤ V.heap.size ∧ Below w.heap.size w V) (n := L.length) (Fr.le_of (by kernel_rfl) (by kernel_rfl) (by repeat' constructor)) ⟨0, _, Z, Q, H0, _, _, g41, w36.heap.size, w41.heap.size, rfl, rfl, by omega, rfl, hinv0, f36, f41, f46, hc0, f47, by omega, by omega, by omega, by omega, hw⟩ ?_
      clear f36 f41 f46 f47 hc0 hinv hinv0 hw
      rintro k fr V ⟨i, v, S, C, H, CV, Y, g, ul, uh, rfl, rfl, hil0, rfl, hinv, f36, f41, f46, fc, f47, hb1, hb2, hb3, hb4, hw⟩
      have hphi := f41.1.hi
      have hsl := hinv.sl
      have hhl := hinv.hl
      have hyl := hinv.yl
      have hul := usH_len H
      have hcl := fc.len
      have hglt : g < V.heap.size := by obtain ⟨A9, c9, f9, _⟩ := f41.1.ex; exact f9.lt
      first | refine rk_frame (by simp only [List.cons_append, List.nil_append, List.drop_succ_cons, List.drop_zero]; rfl) ?_ | refine wl_frame (by simp only [List.cons_append, List.nil_append, List.drop_succ_cons, List.drop_zero]; rfl) ?_
      refine rk_seq ?_
      refine rk_seq ?_
      refine rk_region ?_
      refine wl_p (fun _ => o_move rfl) ?_
      refine wl_p (fun _ => o_move rfl) ?_
      refine wl_p (fun _ => o_len (t := 45) Tryd.underlying45 rfl) ?_
      refine wl_p (fun _ => o_lt rfl rfl) ?_
      refine wl_nil ?_
      refine rk_if rfl (fun h51 => ?_) (fun h51 => ?_)
      · have hil : i < L.length := by omega
        obtain ⟨hkb, hkl⟩ := hsL.2 _ (List.getElem_mem hil)
        have hpk7 := pick_range L[i].1 7 (by omega)
        obtain ⟨t, ht⟩ : ∃ t, pick L[i].1 7 = t := ⟨_, rfl⟩
        rw [ht] at hpk7
        refine rk_skip ?_
        refine rk_seq ?_
        refine rk_block ?_
        refine rk_seq ?_
        refine rk_region ?_
        refine wl_p (fun _ => o_move rfl) ?_
        refine wl_p (fun _ => o_move rfl) ?_
        refine wl_p (fun _ => (o_iaddrA (i) Tryd.underlying45 Tryd.sizeOf50 rfl rfl rfl (hL.some_ (by omega)) (by omega))) ?_
        refine wl_ldPAct rfl hL hw (by omega) ?_
        rintro A157 c157 B157 d157 f57 f57_1 i57 i57_1 i57_2 i57_3 e57 e57_1 i57_4
        refine wl_allocg [_, _, _, _] Tryd.zeroValue50 (by rfl) ?_
        rintro g12 w12 f12 b12 i12 i12_1
        have s12 := b12.size
        replace hw := hw.trans (b12.mono hw.size)
        replace f47 := f47.u b12
        replace fc := fc.u b12
        replace f46 := f46.u b12
        replace f41 := f41.u b12
        replace f36 := f36.u b12
        refine wl_storega Tryd.sizeOf50 rfl rfl (by rfl) (oneCell_of (by rfl)) f12 (by rfl) ?_
        rintro w_1 f g_1 e
        have s := g_1.size
        replace hw := hw.trans (below_of_grownBy g_1.g hw.size (by omega))
        replace f36 := f36.k g_1.g (ap_some (by omega))
        replace f41 := f41.y g_1 (by decide)
        replace f46 := f46.k g_1.g (ap_some (by omega))
        replace fc := fc.y g_1 (by decide)
        replace f47 := f47.k g_1.g (ap_some (by omega))
        clear f12
        refine wl_nil ?_
        refine rk_seq ?_
        refine rk_seq ?_
        refine rk_region ?_
        refine wl_p (fun _ => o_faddr (s := 50) (i := 0) (off := 0) Tryd.underlying50 rfl Tryd.sizeOf3 rfl rfl rfl) ?_
        refine wl_r (o_loadbg Tryd.isAgg3 rfl f (by rfl)) ?_
        refine wl_call rfl (C_PickR _ ht e57 w7) ?_
        rintro v60 w60 ⟨rfl, b60⟩
        have s60 := b60.size
        replace hw := hw.trans (b60.mono hw.size)
        replace f47 := f47.u b60
        replace fc := fc.u b60
        replace f46 := f46.u b60
        replace f41 := f41.u b60
        replace f36 := f36.u b60
        replace f := f.u b60
        refine wl_nil ?_
        by_cases hcont : (t = 0 ∨ t = 1) ∧ 500 < L[i].2.2.2.length
        · obtain ⟨h01, h500⟩ := hcont
          have hUS : 2 * (usH H).length ≤ S.length := by omega
          obtain ⟨k0, hk0⟩ : ∃ k0, least (usH H) = k0 := ⟨_, rfl⟩
          have hk0n : k0 ≤ n := by rw [← hk0]; have := least_le (usH H); omega
          have wk0 : (Lit.int .i64 (k0 : Int)).wf = true := wf_small (by omega) (by omega)
          have hr := newP_bad (S := S) (C := C) (U := usH H) h500
          rcases h01 with h01 | h01
          · have hlk := fun (j : Nat) (h : j < k0) => least_lt (U := usH H) (j := j) (by rw [hk0]; exact h)
            have hla := least_at (usH H)
            rw [hk0] at hla
            refine rk_block ?_
            refine rk_seq ?_
            refine rk_seq ?_
            refine rk_region ?_
            refine wl_p (fun _ => o_eq rfl rfl) ?_
            refine wl_p (fun _ => o_assign rfl) ?_
            refine wl_nil ?_
            refine rk_if rfl (fun h61 => ?_) (fun h61 => h61.elim (by omega))
            refine rk_skip ?_
            refine rk_if rfl (fun h61 => ?_) (fun h61 => h61.elim (by omega))
            refine rk_seq ?_
            refine rk_region ?_
            refine wl_p (fun _ => o_move rfl) ?_
            refine wl_p (fun _ => o_faddr (s := 50) (i := 3) (off := 3) Tryd.underlying50 rfl Tryd.sizeOf22 rfl rfl rfl) ?_
            refine wl_r (o_loadbg Tryd.isAgg22 rfl f (by rfl)) ?_
            refine wl_call rfl (C_OwnP _ (f57_1.u hw) rfl (by omega)) ?_
            rintro v68 w68 ⟨A68, ⟨c68, ⟨rfl, ⟨f68, b68⟩⟩⟩⟩
            have qf68 := f68.cap
            have s68 := b68.size
            replace hw := hw.trans (b68.mono hw.size)
            replace f := f.u b68
            replace f36 := f36.u b68
            replace f41 := f41.u b68
            replace f46 := f46.u b68
            replace fc := fc.u b68
            replace f47 := f47.u b68
            refine wl_call rfl (C_pNew _ (hT.u hw) f41 f36 f68.to_Rd hr rfl (by omega) (by omega) (by omega) (by omega) (by omega)) ?_
            rintro v69 w69 ⟨rfl, ⟨f69, ⟨f69_1, ⟨w169, ⟨g69, ⟨g69_1, ⟨row69, g69_2⟩⟩⟩⟩⟩⟩⟩
            dsimp only at f69
            dsimp only at f69_1
            dsimp only
            have s69 := g69.size
            replace hw := hw.trans (g69.below hw.size (by omega))
            replace f47 := f47.c g69 (by omega)
            replace fc := fc.c g69 (by omega)
            replace f46 := f46.c g69 (by omega)
            replace f41 := f41.c g69 (by omega)
            replace f := f.c g69 (by omega)
            replace f68 := f68.c g69 (by omega)
            clear f36
            have s69g69_1 := g69_1.size
            replace hw := hw.trans (g69_1.below hw.size (by omega))
            replace f68 := f68.c g69_1 (by omega)
            replace f := f.c g69_1 (by omega)
            replace f46 := f46.c g69_1 (by omega)
            replace fc := fc.y g69_2 (by decide)
            replace f47 := f47.y g69_2 (by decide)
            clear f41
            refine wl_p (fun _ => o_move rfl) ?_
            refine wl_p (fun _ => o_ext20 rfl) ?_
            refine wl_p (fun _ => o_ext21 rfl) ?_
            refine wl_p (fun _ => o_assign rfl) ?_
            refine wl_p (fun _ => o_assign rfl) ?_
            refine wl_nil ?_
            refine rk_seq ?_
            refine rk_region ?_
            refine wl_p (fun _ => o_assign rfl) ?_
            refine wl_nil ?_
            refine rk_seq ?_
            refine rk_block ?_
            refine rk_loopf (fun fb m fr V => ∃ j : Nat, fr = [(15, .int .i64 (j : Int))] ++ fb.drop 1 ∧ j ≤ k0 ∧ m = k0 - j ∧ V = w69) (n := k0) (Fr.le_of (by kernel_rfl) (by kernel_rfl) (by repeat' constructor)) ⟨0, rfl, by omega, rfl, rfl⟩ ?_
            rintro m fr V3 ⟨j, rfl, hj3, rfl, rfl⟩
            have wj : (Lit.int .i64 (j : Int)).wf = true := wf_small (by omega) (by omega)
            first | refine rk_frame (by simp only [List.cons_append, List.nil_append, List.drop_succ_cons, List.drop_zero]; rfl) ?_ | refine wl_frame (by simp only [List.cons_append, List.nil_append, List.drop_succ_cons, List.drop_zero]; rfl) ?_
            by_cases hjk : j < k0
            · have hu := hlk j hjk
              rw [usH_get] at hu
              rcases fc.get_ (j : Int) with ⟨hg1, hg2⟩ | ⟨b, A2, c2, hg1, hg2, hrd⟩
              · rw [hg2] at hu; cases hu
              · have hbl := (hinv.pg j b hg1).1
                refine rk_seq ?_
                refine rk_seq ?_
                refine rk_region ?_
                refine wl_p (fun _ => o_move rfl) ?_
                refine wl_p (fun _ => o_move rfl) ?_
                refine wl_r (o_lookH1 rfl rfl f46 hg2 wj) ?_
                refine wl_p (fun _ => o_len (t := 22) Tryd.underlying22 rfl) ?_
                refine wl_p (fun _ => o_gt rfl rfl) ?_
                refine wl_nil ?_
                refine rk_if rfl (fun h76 => ?_) (fun h76 => h76.elim (by omega))
                refine rk_skip ?_
                refine rk_block ?_
                refine rk_region ?_
                refine wl_p (fun _ => o_move rfl) ?_
                refine wl_p (fun _ => o_add rfl rfl (by omega) (by omega)) ?_
                refine wl_p (fun _ => o_assign rfl) ?_
                refine wl_nil ?_
                refine rk_blk ?_
                simp only [hbl]
                exact rk_againf (Fr.le_of (by kernel_rfl) (by kernel_rfl) (by repeat' constructor)) ⟨j + 1, rfl, by omega, rfl, rfl⟩ (by omega)
            · obtain rfl : j = k0 := by omega
              rw [usH_get] at hla
              rcases fc.get_ (j : Int) with ⟨hg1, hg2⟩ | ⟨b, A2, c2, hg1, hg2, hrd⟩
              · refine rk_seq ?_
                refine rk_seq ?_
                refine rk_region ?_
                refine wl_p (fun _ => o_move rfl) ?_
                refine wl_p (fun _ => o_move rfl) ?_
                refine wl_r (o_lookH0 rfl rfl f46 hg1 wj) ?_
                refine wl_p (fun _ => o_len (t := 22) Tryd.underlying22 rfl) ?_
                refine wl_p (fun _ => o_gt rfl rfl) ?_
                refine wl_nil ?_
                refine rk_false rfl ?_
                refine rk_exit rfl ?_
                refine rk_seq ?_
                refine rk_seq ?_
                refine rk_region ?_
                refine wl_p (fun _ => o_faddr (s := 50) (i := 3) (off := 3) Tryd.underlying50 rfl Tryd.sizeOf22 rfl rfl rfl) ?_
                refine wl_r (o_loadbg Tryd.isAgg22 rfl f (by rfl)) ?_
                refine wl_p (fun _ => o_len (t := 22) Tryd.underlying22 rfl) ?_
                refine wl_p (fun _ => o_gt rfl rfl) ?_
                refine wl_nil ?_
                refine rk_if rfl (fun h82 => ?_) (fun h82 => h82.elim (by omega))
                refine rk_seq ?_
                refine rk_seq ?_
                refine rk_region ?_
                refine wl_p (fun _ => o_move rfl) ?_
                refine wl_p (fun _ => o_ne rfl rfl) ?_
                refine wl_nil ?_
                refine rk_false rfl ?_
                refine rk_skip ?_
                refine rk_exit rfl ?_
                refine rk_region ?_
                refine wl_p (fun _ => o_move rfl) ?_
                refine wl_p (fun _ => o_add rfl rfl (by omega) (by omega)) ?_
                refine wl_p (fun _ => o_assign rfl) ?_
                refine wl_nil ?_
                exact rk_againf (Fr.le_of (by kernel_rfl) (by kernel_rfl) (by repeat' constructor)) ⟨i + 1, (i : Int) + 1, S, C, H, CV, Y, g, ul, uh, rfl, by omega, by omega, rfl, hinv, by assumption, by assumption, f46, fc, f47, hb1, hb2, hb3, by omega, hw⟩ (by omega)
              · rw [hg1] at hla; cases hla
          · have hlk := fun (j : Nat) (h : j < k0) => least_lt (U := usH H) (j := j) (by rw [hk0]; exact h)
            have hla := least_at (usH H)
            rw [hk0] at hla
            refine rk_block ?_
            refine rk_seq ?_
            refine rk_seq ?_
            refine rk_region ?_
            refine wl_p (fun _ => o_eq rfl rfl) ?_
            refine wl_p (fun _ => o_assign rfl) ?_
            refine wl_nil ?_
            refine rk_if rfl (fun h61 => absurd h61 (by omega)) (fun h61 => ?_)
            refine rk_region ?_
            refine wl_p (fun _ => o_eq rfl rfl) ?_
            refine wl_p (fun _ => o_assign rfl) ?_
            refine wl_nil ?_
            refine rk_if rfl (fun h61 => ?_) (fun h61 => h61.elim (by omega))
            refine rk_seq ?_
            refine rk_region ?_
            refine wl_p (fun _ => o_move rfl) ?_
            refine wl_p (fun _ => o_faddr (s := 50) (i := 3) (off := 3) Tryd.underlying50 rfl Tryd.sizeOf22 rfl rfl rfl) ?_
            refine wl_r (o_loadbg Tryd.isAgg22 rfl f (by rfl)) ?_
            refine wl_call rfl (C_OwnP _ (f57_1.u hw) rfl (by omega)) ?_
            rintro v68 w68 ⟨A68, ⟨c68, ⟨rfl, ⟨f68, b68⟩⟩⟩⟩
            have qf68 := f68.cap
            have s68 := b68.size
            replace hw := hw.trans (b68.mono hw.size)
            replace f := f.u b68
            replace f36 := f36.u b68
            replace f41 := f41.u b68
            replace f46 := f46.u b68
            replace fc := fc.u b68
            replace f47 := f47.u b68
            refine wl_call rfl (C_pNew _ (hT.u hw) f41 f36 f68.to_Rd hr rfl (by omega) (by omega) (by omega) (by omega) (by omega)) ?_
            rintro v69 w69 ⟨rfl, ⟨f69, ⟨f69_1, ⟨w169, ⟨g69, ⟨g69_1, ⟨row69, g69_2⟩⟩⟩⟩⟩⟩⟩
            dsimp only at f69
            dsimp only at f69_1
            dsimp only
            have s69 := g69.size
            replace hw := hw.trans (g69.below hw.size (by omega))
            replace f47 := f47.c g69 (by omega)
            replace fc := fc.c g69 (by omega)
            replace f46 := f46.c g69 (by omega)
            replace f41 := f41.c g69 (by omega)
            replace f := f.c g69 (by omega)
            replace f68 := f68.c g69 (by omega)
            clear f36
            have s69g69_1 := g69_1.size
            replace hw := hw.trans (g69_1.below hw.size (by omega))
            replace f68 := f68.c g69_1 (by omega)
            replace f := f.c g69_1 (by omega)
            replace f46 := f46.c g69_1 (by omega)
            replace fc := fc.y g69_2 (by decide)
            replace f47 := f47.y g69_2 (by decide)
            clear f41
            refine wl_p (fun _ => o_move rfl) ?_
            refine wl_p (fun _ => o_ext20 rfl) ?_
            refine wl_p (fun _ => o_ext21 rfl) ?_
            refine wl_p (fun _ => o_assign rfl) ?_
            refine wl_p (fun _ => o_assign rfl) ?_
            refine wl_nil ?_
            refine rk_seq ?_
            refine rk_region ?_
            refine wl_p (fun _ => o_assign rfl) ?_
            refine wl_nil ?_
            refine rk_seq ?_
            refine rk_block ?_
            refine rk_loopf (fun fb m fr V => ∃ j : Nat, fr = [(15, .int .i64 (j : Int))] ++ fb.drop 1 ∧ j ≤ k0 ∧ m = k0 - j ∧ V = w69) (n := k0) (Fr.le_of (by kernel_rfl) (by kernel_rfl) (by repeat' constructor)) ⟨0, rfl, by omega, rfl, rfl⟩ ?_
            rintro m fr V3 ⟨j, rfl, hj3, rfl, rfl⟩
            have wj : (Lit.int .i64 (j : Int)).wf = true := wf_small (by omega) (by omega)
            first | refine rk_frame (by simp only [List.cons_append, List.nil_append, List.drop_succ_cons, List.drop_zero]; rfl) ?_ | refine wl_frame (by simp only [List.cons_append, List.nil_append, List.drop_succ_cons, List.drop_zero]; rfl) ?_
            by_cases hjk : j < k0
            · have hu := hlk j hjk
              rw [usH_get] at hu
              rcases fc.get_ (j : Int) with ⟨hg1, hg2⟩ | ⟨b, A2, c2, hg1, hg2, hrd⟩
              · rw [hg2] at hu; cases hu
              · have hbl := (hinv.pg j b hg1).1
                refine rk_seq ?_
                refine rk_seq ?_
                refine rk_region ?_
                refine wl_p (fun _ => o_move rfl) ?_
                refine wl_p (fun _ => o_move rfl) ?_
                refine wl_r (o_lookH1 rfl rfl f46 hg2 wj) ?_
                refine wl_p (fun _ => o_len (t := 22) Tryd.underlying22 rfl) ?_
                refine wl_p (fun _ => o_gt rfl rfl) ?_
                refine wl_nil ?_
                refine rk_if rfl (fun h76 => ?_) (fun h76 => h76.elim (by omega))
                refine rk_skip ?_
                refine rk_block ?_
                refine rk_region ?_
                refine wl_p (fun _ => o_move rfl) ?_
                refine wl_p (fun _ => o_add rfl rfl (by omega) (by omega)) ?_
                refine wl_p (fun _ => o_assign rfl) ?_
                refine wl_nil ?_
                refine rk_blk ?_
                simp only [hbl]
                exact rk_againf (Fr.le_of (by kernel_rfl) (by kernel_rfl) (by repeat' constructor)) ⟨j + 1, rfl, by omega, rfl, rfl⟩ (by omega)
            · obtain rfl : j = k0 := by omega
              rw [usH_get] at hla
              rcases fc.get_ (j : Int) with ⟨hg1, hg2⟩ | ⟨b, A2, c2, hg1, hg2, hrd⟩
              · refine rk_seq ?_
                refine rk_seq ?_
                refine rk_region ?_
                refine wl_p (fun _ => o_move rfl) ?_
                refine wl_p (fun _ => o_move rfl) ?_
                refine wl_r (o_lookH0 rfl rfl f46 hg1 wj) ?_
                refine wl_p (fun _ => o_len (t := 22) Tryd.underlying22 rfl) ?_
                refine wl_p (fun _ => o_gt rfl rfl) ?_
                refine wl_nil ?_
                refine rk_false rfl ?_
                refine rk_exit rfl ?_
                refine rk_seq ?_
                refine rk_seq ?_
                refine rk_region ?_
                refine wl_p (fun _ => o_faddr (s := 50) (i := 3) (off := 3) Tryd.underlying50 rfl Tryd.sizeOf22 rfl rfl rfl) ?_
                refine wl_r (o_loadbg Tryd.isAgg22 rfl f (by rfl)) ?_
                refine wl_p (fun _ => o_len (t := 22) Tryd.underlying22 rfl) ?_
                refine wl_p (fun _ => o_gt rfl rfl) ?_
                refine wl_nil ?_
                refine rk_if rfl (fun h82 => ?_) (fun h82 => h82.elim (by omega))
                refine rk_seq ?_
                refine rk_seq ?_
                refine rk_region ?_
                refine wl_p (fun _ => o_move rfl) ?_
                refine wl_p (fun _ => o_ne rfl rfl) ?_
                refine wl_nil ?_
                refine rk_false rfl ?_
                refine rk_skip ?_
                refine rk_exit rfl ?_
                refine rk_region ?_
                refine wl_p (fun _ => o_move rfl) ?_
                refine wl_p (fun _ => o_add rfl rfl (by omega) (by omega)) ?_
                refine wl_p (fun _ => o_assign rfl) ?_
                refine wl_nil ?_
                exact rk_againf (Fr.le_of (by kernel_rfl) (by kernel_rfl) (by repeat' constructor)) ⟨i + 1, (i : Int) + 1, S, C, H, CV, Y, g, ul, uh, rfl, by omega, by omega, rfl, hinv, by assumption, by assumption, f46, fc, f47, hb1, hb2, hb3, by omega, hw⟩ (by omega)
              · rw [hg1] at hla; cases hla
        refine rk_block ?_
        refine rk_joinf (fun fb fr V => ∃ (S : List Sec) (C : List (Option Sec)) (H : List (Option By)) (CV Y : List (Option Value)) (g ul uh : Nat), fr = [(11, .int .i64 (i : Int)), (10, .map (some bs)), (9, .map (some bh)), (7, .pointer (some ⟨g, 0, none⟩))] ++ fb.drop 16 ∧ PgInv n S C H Y ∧ DkAt V w31.heap.size w36.heap.size g36 S C ∧ PgAt V g g36 ul uh (usH H) ∧ MapV V bh CV ∧ Cv V w36.heap.size CV H ∧ MapV V bs Y ∧ w36.heap.size ≤ ul ∧ w36.heap.size ≤ g ∧ (bh < ul ∨ uh ≤ bh) ∧ w47.heap.size ≤ V.heap.size ∧ Below w.heap.size w V) ?_ (fun ks2 hj2 => ?_)
        · clear f36 f41 f46 f47 fc hw hinv hb1 hb2 hb3 hb4 hphi hsl hhl hyl hul hcl hglt f
          rintro fr V2 ⟨S, C, H, CV, Y, g, ul, uh, rfl, hinv, f36, f41, f46, fc, f47, hb1, hb2, hb3, hb4, hw⟩
          have hphi := f41.1.hi
          have hglt : g < V2.heap.size := by obtain ⟨A9, c9, f9, _⟩ := f41.1.ex; exact f9.lt
          have hsl := hinv.sl
          have hhl := hinv.hl
          have hyl := hinv.yl
          have hul := usH_len H
          have hcl := fc.len
          have hcc := fc.cnt
          obtain ⟨I, hI⟩ : ∃ I, usdZ (usH H) (usH H).length = I := ⟨_, rfl⟩
          obtain ⟨q, hq⟩ : ∃ q, (usd (usH H) (usH H).length).length = q := ⟨_, rfl⟩
          have hIl : I.length = q := by rw [← hI, usdZ_len, hq]
          have hcq : cntG CV = q := by rw [hcc, ← usd_usH, hq]
          have hqn := usd_le (usH H) (usH H).length
          obtain ⟨X, hX⟩ : ∃ X, cur S C = X := ⟨_, rfl⟩
          have hUS : 2 * (usH H).length ≤ S.length := by omega
          first | refine rk_frame (by simp only [List.cons_append, List.nil_append, List.drop_succ_cons, List.drop_zero]; rfl) ?_ | refine wl_frame (by simp only [List.cons_append, List.nil_append, List.drop_succ_cons, List.drop_zero]; rfl) ?_
          refine rk_seq ?_
          refine rk_seq ?_
          refine rk_region ?_
          refine wl_p (fun _ => o_move rfl) ?_
          refine wl_call rfl (C_pUsed _ (hT.u hw) f41 hI) ?_
          rintro v218 w218 ⟨A218, ⟨c218, ⟨rfl, ⟨f218, b218⟩⟩⟩⟩
          have qf218 := f218.cap
          have s218 := b218.size
          replace hw := hw.trans (b218.mono hw.size)
          replace f47 := f47.u b218
          replace fc := fc.u b218
          replace f46 := f46.u b218
          replace f41 := f41.u b218
          replace f36 := f36.u b218
          refine wl_p (fun _ => o_len (t := 35) Tryd.underlying35 rfl) ?_
          refine wl_p (fun _ => o_move rfl) ?_
          refine wl_r (o_lenH rfl f46 hcc) ?_
          refine wl_p (fun _ => o_ne rfl rfl) ?_
          refine wl_p (fun _ => o_move rfl) ?_
          refine wl_know 223 false rfl (decide_eq_false (by omega)) ?_
          refine wl_p (fun _ => o_move rfl) ?_
          refine wl_call rfl (C_pSpare _ f41 hq) ?_
          rintro v225 w225 ⟨rfl, b225⟩
          have s225 := b225.size
          replace hw := hw.trans (b225.mono hw.size)
          replace f36 := f36.u b225
          replace f41 := f41.u b225
          replace f46 := f46.u b225
          replace fc := fc.u b225
          replace f47 := f47.u b225
          replace f218 := f218.u b225
          refine wl_p (fun _ => o_move rfl) ?_
          refine wl_p (fun _ => o_move rfl) ?_
          refine wl_r (o_lenH rfl f46 hcc) ?_
          refine wl_p (fun _ => o_sub rfl rfl (by omega) (by omega)) ?_
          refine wl_p (fun _ => o_ne rfl rfl) ?_
          refine wl_p (fun _ => o_pick_f rfl rfl) ?_
          refine wl_nil ?_
          refine rk_if rfl (fun h231 => absurd h231 (by omega)) (fun h231 => ?_)
          refine rk_skip ?_
          refine rk_seq ?_
          refine rk_region ?_
          refine wl_p (fun _ => o_move rfl) ?_
          refine wl_rangeV Tryd.underlying47 rfl f46 ?_
          rintro r0 w233 fi b233 i233 j233
          have sb233 := b233.size
          replace hw := hw.trans (b233.mono hw.size)
          replace f218 := f218.u b233
          replace f47 := f47.u b233
          replace fc := fc.u b233
          replace f46 := f46.u b233
          replace f41 := f41.u b233
          replace f36 := f36.u b233
          have hsz := hw.size
          refine wl_nil ?_
          refine rk_block ?_
          refine rk_joinf (fun fb fr V => fr = [] ++ fb ∧ DkAt V w31.heap.size w36.heap.size g36 S C ∧ PgAt V g g36 ul uh (usH H) ∧ MapV V bh CV ∧ Cv V w36.heap.size CV H ∧ MapV V bs Y ∧ w47.heap.size ≤ V.heap.size ∧ Below w.heap.size w V) ?_ (fun ks3 hj3 => ?_)
          rotate_left
          · refine rk_loopf (fun fb m fr V => ∃ lf : Int → Bool, fr = [] ++ fb ∧ IterV V r0 bh CV lf m ∧ DkAt V w31.heap.size w36.heap.size g36 S C ∧ PgAt V g g36 ul uh (usH H) ∧ Cv V w36.heap.size CV H ∧ MapV V bs Y ∧ w233.heap.size ≤ V.heap.size ∧ Below w.heap.size w V) (n := cntG CV) (Fr.le_of (by kernel_rfl) (by kernel_rfl) (by repeat' constructor)) ⟨_, rfl, fi, f36, f41, fc, f47, Nat.le_refl _, hw⟩ ?_
            clear fi f36 f41 fc f47 f46 hw
            rintro m fr V3 ⟨lf, rfl, fi, f36, f41, fc, f47, hsV, hw⟩
            first | refine rk_frame (by simp only [List.cons_append, List.nil_append, List.drop_succ_cons, List.drop_zero]; rfl) ?_ | refine wl_frame (by simp only [List.cons_append, List.nil_append, List.drop_succ_cons, List.drop_zero]; rfl) ?_
            refine rk_seq ?_
            refine rk_region ?_
            refine wl_nextV rfl fi (by omega) (fun h0 => ?_) (fun i2 s W1 k1 hi2 hci hlf fi1 hk1 hg1 hs1 hen => ?_)
            · have f46 := fi.to_MapV
              refine wl_p (fun _ => o_extV10 rfl) ?_
              refine wl_nil ?_
              refine rk_seq ?_
              refine rk_false rfl ?_
              refine rk_exit rfl ?_
              exact rk_tof hj3 (Fr.le_of (by kernel_rfl) (by kernel_rfl) (by repeat' constructor)) ⟨rfl, f36, f41, f46, fc, f47, by omega, hw⟩
            · have hc1 : Chg r0 (r0 + 1) V3 W1 := Chg.of_g1 hg1 (Nat.le_refl _) (Nat.lt_succ_self _)
              replace f36 := f36.c hc1 (by omega)
              replace f41 := f41.c hc1 (by omega)
              replace fc := fc.it hg1 fi.objs.2
              replace f47 := f47.c hc1 (by omega)
              replace hw := hw.trans (below_of_grownBy hg1 hw.size (by omega))
              have f46 := fi1.to_MapV
              obtain ⟨b, A2, c2, hgb, rfl, hrd⟩ := fc.some_ hi2 hci
              have hread := hinv.read hgb
              rw [hX] at hread
              have hgv : gAt CV (i2 : Int) = some (.slice A2 b.length c2) := by rw [gAt_nat hi2, hci]
              have wi2 : (Lit.int .i64 (i2 : Int)).wf = true := wf_small (by omega) (by omega)
              clear fi
              refine wl_p (fun _ => o_ext30 rfl) ?_
              refine wl_nil ?_
              refine rk_seq ?_
              refine rk_true rfl ?_
              refine rk_skip ?_
              refine rk_block ?_
              refine rk_seq ?_
              refine rk_region ?_
              refine wl_r (o_entryV rfl hen) ?_
              clear hen
              refine wl_p (fun _ => o_ext20 rfl) ?_
              refine wl_p (fun _ => o_assign rfl) ?_
              refine wl_nil ?_
              refine rk_seq ?_
              refine rk_region ?_
              refine wl_p (fun _ => o_move rfl) ?_
              refine wl_p (fun _ => o_move rfl) ?_
              refine wl_call rfl (C_pRead _ f41 f36 hX hread (by omega) wi2) ?_
              rintro v241 w241 ⟨A241, ⟨c241, ⟨rfl, ⟨f241, ⟨i241, b241⟩⟩⟩⟩⟩
              dsimp only at f241
              dsimp only at i241
              dsimp only
              have s241 := b241.size
              replace hw := hw.trans (b241.mono hw.size)
              replace hc1 := hc1.thenB b241
              replace hrd := hrd.u b241
              replace f46 := f46.u b241
              replace f47 := f47.u b241
              replace fc := fc.u b241
              replace f41 := f41.u b241
              replace f36 := f36.u b241
              replace fi1 := fi1.u b241
              refine wl_p (fun _ => o_move rfl) ?_
              refine wl_p (fun _ => o_ext20 rfl) ?_
              refine wl_p (fun _ => o_ext21 rfl) ?_
              refine wl_p (fun _ => o_assign rfl) ?_
              refine wl_p (fun _ => o_assign rfl) ?_
              refine wl_nil ?_
              refine rk_seq ?_
              refine rk_region ?_
              refine wl_p (fun _ => o_move rfl) ?_
              refine wl_p (fun _ => o_ne rfl rfl) ?_
              refine wl_p (fun _ => o_move rfl) ?_
              refine wl_p (fun _ => o_move rfl) ?_
              refine wl_r (o_strU Tryd.underlying22 Tryd.underlying5 Tryd.underlying9 rfl f241.to_Rd (Below.refl _ _) rfl) ?_
              refine wl_p (fun _ => o_move rfl) ?_
              refine wl_p (fun _ => o_move rfl) ?_
              refine wl_r (o_lookH1 rfl rfl fi1.to_MapV hgv wi2) ?_
              refine wl_r (o_strU Tryd.underlying22 Tryd.underlying5 Tryd.underlying9 rfl hrd (Below.refl _ _) rfl) ?_
              refine wl_p (fun _ => o_sne rfl rfl) ?_
              refine wl_p (fun _ => o_pick_f rfl rfl) ?_
              refine wl_nil ?_
              refine rk_cond rfl (fun h254 => by simp at h254) (fun h254 => ?_)
              refine rk_skip ?_
              refine rk_blk ?_
              exact rk_againf (Fr.le_of (by kernel_rfl) (by kernel_rfl) (by repeat' constructor)) ⟨_, rfl, fi1, f36, f41, fc, f47, by omega, hw⟩ hk1
          clear fi f36 f41 fc f47 f46 hw
          rintro fr V3 ⟨rfl, f36, f41, f46, fc, f47, hsV, hw⟩
          first | refine rk_frame (by simp only [List.cons_append, List.nil_append, List.drop_succ_cons, List.drop_zero]; rfl) ?_ | refine wl_frame (by simp only [List.cons_append, List.nil_append, List.drop_succ_cons, List.drop_zero]; rfl) ?_
          refine rk_blk ?_
          refine rk_region ?_
          refine wl_p (fun _ => o_move rfl) ?_
          refine wl_p (fun _ => o_add rfl rfl (by omega) (by omega)) ?_
          refine wl_p (fun _ => o_assign rfl) ?_
          refine wl_nil ?_
          exact rk_againf (Fr.le_of (by kernel_rfl) (by kernel_rfl) (by repeat' constructor)) ⟨i + 1, (i : Int) + 1, S, C, H, CV, Y, g, ul, uh, rfl, by omega, by omega, rfl, hinv, f36, f41, f46, fc, f47, hb1, hb2, hb3, hsV, hw⟩ (by omega)
        · have hUS : 2 * (usH H).length ≤ S.length := by omega
          by_cases h3 : t = 3
          · have wnn : (Lit.int .i64 (1 + p)).wf = true := wf_small (by omega) (by omega)
            have hpn := pick_range L[i].2.1 (1 + p) (by omega)
            obtain ⟨z, hz⟩ : ∃ z : Nat, pick L[i].2.1 (1 + p) = (z : Int) := ⟨(pick L[i].2.1 (1 + p)).toNat, by omega⟩
            obtain ⟨r, hr⟩ : ∃ r, freeP (usH H) (z : Int) = r := ⟨_, rfl⟩
            have wz : (Lit.int .i64 (z : Int)).wf = true := wf_small (by omega) (by omega)
            have hdel := hinv.del (k := z) (by omega)
            rcases fc.get_ (z : Int) with ⟨hg1, hg2⟩ | ⟨b, A2, c2, hg1, hg2, hrd⟩
            · have hr1 : r = (6, usH H) := by rw [← hr, freeP, usH_at, hg2]; rfl
              subst hr1
              refine rk_seq ?_
              refine rk_seq ?_
              refine rk_region ?_
              refine wl_p (fun _ => o_eq rfl rfl) ?_
              refine wl_p (fun _ => o_assign rfl) ?_
              refine wl_nil ?_
              refine rk_if rfl (fun h61 => absurd h61 (by omega)) (fun h61 => ?_)
              refine rk_region ?_
              refine wl_p (fun _ => o_eq rfl rfl) ?_
              refine wl_p (fun _ => o_assign rfl) ?_
              refine wl_nil ?_
              refine rk_if rfl (fun h61 => absurd h61 (by omega)) (fun h61 => ?_)
              refine rk_seq ?_
              refine rk_region ?_
              refine wl_p (fun _ => o_eq rfl rfl) ?_
              refine wl_p (fun _ => o_assign rfl) ?_
              refine wl_nil ?_
              refine rk_if rfl (fun h122 => ?_) (fun h122 => h122.elim (by omega))
              refine rk_seq ?_
              refine rk_region ?_
              refine wl_p (fun _ => o_faddr (s := 50) (i := 1) (off := 1) Tryd.underlying50 rfl Tryd.sizeOf3 rfl rfl rfl) ?_
              refine wl_r (o_loadbg Tryd.isAgg3 rfl f (by rfl)) ?_
              refine wl_p (fun _ => o_move rfl) ?_
              refine wl_call rfl (C_PickR _ hz e57_1 wnn) ?_
              rintro v127 w127 ⟨rfl, b127⟩
              have s127 := b127.size
              replace hw := hw.trans (b127.mono hw.size)
              replace f := f.u b127
              replace f36 := f36.u b127
              replace f41 := f41.u b127
              replace f46 := f46.u b127
              replace fc := fc.u b127
              replace f47 := f47.u b127
              refine wl_p (fun _ => o_assign rfl) ?_
              refine wl_nil ?_
              refine rk_seq ?_
              refine rk_seq ?_
              refine rk_drawoR (ul) (uh) (id := 32) (none) [0, 0, 3, 4, 0, 0, 48, 64, 128, 264] [0, 0, 3, 7, 0, 0, 48, 112, 240, 511] 4 4 [0, 1, 4, 5, 6, 7, 8, 2, 3, 9] [(.p, 0), (.p, 1), (.p, 4), (.p, 5), (.s, 6), (.p, 7), (.p, 8), (.c, 2), (.p, 3), (.p, 9)] (by kernel_rfl) (by kernel_rfl) (by kernel_rfl) (by kernel_rfl) (by kernel_rfl) ?_; dsimp only [inOrder, nthOp]
              replace f := f.d
              replace f36 := f36.d
              replace f41 := f41.d
              replace f46 := f46.d
              replace f47 := f47.d
              replace fc := fc.d
              replace hw := hw.drew
              refine wl_p (fun _ => o_move rfl) ?_
              refine wl_p (fun _ => o_move rfl) ?_
              refine wl_p (fun _ => o_move rfl) ?_
              refine wl_p (fun _ => o_move rfl) ?_
              refine wl_s (fun _ hk => (o_lookH0 rfl rfl (f46.c (chg_of_ok hk) (by omega)) hg1 wz)) ?_
              refine wl_p (fun _ => o_len (t := 22) Tryd.underlying22 rfl) ?_
              refine wl_p (fun _ => o_gt rfl rfl) ?_
              refine wl_callQ rfl (C_pFreeN _ f41 hr wz) ?_ (hq := .inr fun _ _ h => by obtain ⟨_, _, _, hb⟩ := h; exact ok_of_chg hb)
              rintro v130 w130 ⟨rfl, ⟨f130, ⟨⟨row130, g130⟩, g130_1⟩⟩⟩
              dsimp only at f130
              dsimp only
              have s130 := g130.size
              simp only [drew_size] at s130
              replace hw := hw.trans (g130_1.below hw.size (by omega))
              replace fc := fc.y g130 (by decide)
              replace f47 := f47.y g130 (by decide)
              replace f46 := f46.y g130 (by decide)
              replace f36 := f36.c g130_1 (by omega)
              replace f := f.y g130 (by decide)
              clear f41
              refine wl_p (fun _ => o_eq rfl rfl) ?_
              refine wl_p (fun _ => o_bne (t := 4) Tryd.underlying4 rfl rfl) ?_
              refine wl_nild ?_
              refine rk_false rfl ?_
              refine rk_skip ?_
              refine rk_region ?_
              refine wl_p (fun _ => o_move rfl) ?_
              refine wl_p (fun _ => o_move rfl) ?_
              refine wl_delH rfl rfl f46 rfl (by omega) (by omega) ?_
              rintro w_2 f_1 g_2 e_1
              have s_1 := g_2.size
              replace hw := hw.trans (below_of_grownBy g_2.g hw.size (by omega))
              replace f := f.k g_2.g (ap_some (by omega))
              replace f36 := f36.k g_2.g (ap_some (by omega))
              replace f47 := f47.k g_2.g (ap_some (by omega))
              replace fc := fc.m g_2
              replace f130 := f130.m g_2
              clear f46
              refine wl_nil ?_
              refine rk_blk ?_
              have e1 : CV.set z none = CV := gAt_set_none hg1
              rw [e1] at f_1
              exact rk_tof hj2 (Fr.le_of (by kernel_rfl) (by kernel_rfl) (by repeat' constructor)) ⟨S, C, H, CV, Y, g, ul, uh, rfl, hinv, f36, by assumption, f_1, fc, f47, hb1, hb2, hb3, by omega, hw⟩
            · have hr1 : r = (0, usH (H.set z none)) := by rw [← hr, freeP, usH_at, hg1, ← usH_del]; rfl
              have hbl := (hinv.pg z b hg1).1
              subst hr1
              refine rk_seq ?_
              refine rk_seq ?_
              refine rk_region ?_
              refine wl_p (fun _ => o_eq rfl rfl) ?_
              refine wl_p (fun _ => o_assign rfl) ?_
              refine wl_nil ?_
              refine rk_if rfl (fun h61 => absurd h61 (by omega)) (fun h61 => ?_)
              refine rk_region ?_
              refine wl_p (fun _ => o_eq rfl rfl) ?_
              refine wl_p (fun _ => o_assign rfl) ?_
              refine wl_nil ?_
              refine rk_if rfl (fun h61 => absurd h61 (by omega)) (fun h61 => ?_)
              refine rk_seq ?_
              refine rk_region ?_
              refine wl_p (fun _ => o_eq rfl rfl) ?_
              refine wl_p (fun _ => o_assign rfl) ?_
              refine wl_nil ?_
              refine rk_if rfl (fun h122 => ?_) (fun h122 => h122.elim (by omega))
              refine rk_seq ?_
              refine rk_region ?_
              refine wl_p (fun _ => o_faddr (s := 50) (i := 1) (off := 1) Tryd.underlying50 rfl Tryd.sizeOf3 rfl rfl rfl) ?_
              refine wl_r (o_loadbg Tryd.isAgg3 rfl f (by rfl)) ?_
              refine wl_p (fun _ => o_move rfl) ?_
              refine wl_call rfl (C_PickR _ hz e57_1 wnn) ?_
              rintro v127 w127 ⟨rfl, b127⟩
              have s127 := b127.size
              replace hw := hw.trans (b127.mono hw.size)
              replace hrd := hrd.u b127
              replace f := f.u b127
              replace f36 := f36.u b127
              replace f41 := f41.u b127
              replace f46 := f46.u b127
              replace fc := fc.u b127
              replace f47 := f47.u b127
              refine wl_p (fun _ => o_assign rfl) ?_
              refine wl_nil ?_
              refine rk_seq ?_
              refine rk_seq ?_
              refine rk_drawoR (ul) (uh) (id := 32) (none) [0, 0, 3, 4, 0, 0, 48, 64, 128, 264] [0, 0, 3, 7, 0, 0, 48, 112, 240, 511] 4 4 [0, 1, 4, 5, 6, 7, 8, 2, 3, 9] [(.p, 0), (.p, 1), (.p, 4), (.p, 5), (.s, 6), (.p, 7), (.p, 8), (.c, 2), (.p, 3), (.p, 9)] (by kernel_rfl) (by kernel_rfl) (by kernel_rfl) (by kernel_rfl) (by kernel_rfl) ?_; dsimp only [inOrder, nthOp]
              replace f := f.d
              replace f36 := f36.d
              replace f41 := f41.d
              replace f46 := f46.d
              replace f47 := f47.d
              replace fc := fc.d
              replace hw := hw.drew
              refine wl_p (fun _ => o_move rfl) ?_
              refine wl_p (fun _ => o_move rfl) ?_
              refine wl_p (fun _ => o_move rfl) ?_
              refine wl_p (fun _ => o_move rfl) ?_
              refine wl_s (fun _ hk => (o_lookH1 rfl rfl (f46.c (chg_of_ok hk) (by omega)) hg2 wz)) ?_
              refine wl_p (fun _ => o_len (t := 22) Tryd.underlying22 rfl) ?_
              refine wl_p (fun _ => o_gt rfl rfl) ?_
              refine wl_callQ rfl (C_pFreeN _ f41 hr wz) ?_ (hq := .inr fun _ _ h => by obtain ⟨_, _, _, hb⟩ := h; exact ok_of_chg hb)
              rintro v130 w130 ⟨rfl, ⟨f130, ⟨⟨row130, g130⟩, g130_1⟩⟩⟩
              dsimp only at f130
              dsimp only
              have s130 := g130.size
              simp only [drew_size] at s130
              replace hw := hw.trans (g130_1.below hw.size (by omega))
              replace fc := fc.y g130 (by decide)
              replace f47 := f47.y g130 (by decide)
              replace f46 := f46.y g130 (by decide)
              replace f36 := f36.c g130_1 (by omega)
              replace f := f.y g130 (by decide)
              clear f41
              refine wl_p (fun _ => o_eq rfl rfl) ?_
              refine wl_p (fun _ => o_bne (t := 4) Tryd.underlying4 rfl rfl) ?_
              refine wl_nild ?_
              simp only [hbl]
              refine rk_false rfl ?_
              refine rk_skip ?_
              refine rk_region ?_
              refine wl_p (fun _ => o_move rfl) ?_
              refine wl_p (fun _ => o_move rfl) ?_
              refine wl_delH rfl rfl f46 rfl (by omega) (by omega) ?_
              rintro w_2 f_1 g_2 e_1
              have s_1 := g_2.size
              replace hw := hw.trans (below_of_grownBy g_2.g hw.size (by omega))
              replace f := f.k g_2.g (ap_some (by omega))
              replace f36 := f36.k g_2.g (ap_some (by omega))
              replace f47 := f47.k g_2.g (ap_some (by omega))
              replace fc := fc.m g_2
              replace f130 := f130.m g_2
              clear f46
              refine wl_nil ?_
              refine rk_blk ?_
              have fd := fc.del_ z
              exact rk_tof hj2 (Fr.le_of (by kernel_rfl) (by kernel_rfl) (by repeat' constructor)) ⟨S, C, H.set z none, CV.set z none, Y, g, ul, uh, rfl, hdel, f36, by assumption, f_1, fd, f47, hb1, hb2, hb3, by omega, hw⟩
          by_cases h4 : t = 4
          · obtain ⟨S1, hS1⟩ : ∃ S1, cur S C = S1 := ⟨_, rfl⟩
            obtain ⟨C1, hC1⟩ : ∃ C1 : List (Option Sec), List.replicate S.length none = C1 := ⟨_, rfl⟩
            have hinv1 := hinv.sync
            rw [hS1, hC1] at hinv1
            have hCe : C1 = List.replicate S1.length none := by rw [← hC1, ← hS1, cur_len]
            refine rk_seq ?_
            refine rk_seq ?_
            refine rk_region ?_
            refine wl_p (fun _ => o_eq rfl rfl) ?_
            refine wl_p (fun _ => o_assign rfl) ?_
            refine wl_nil ?_
            refine rk_if rfl (fun h61 => absurd h61 (by omega)) (fun h61 => ?_)
            refine rk_region ?_
            refine wl_p (fun _ => o_eq rfl rfl) ?_
            refine wl_p (fun _ => o_assign rfl) ?_
            refine wl_nil ?_
            refine rk_if rfl (fun h61 => absurd h61 (by omega)) (fun h61 => ?_)
            refine rk_seq ?_
            refine rk_region ?_
            refine wl_p (fun _ => o_eq rfl rfl) ?_
            refine wl_p (fun _ => o_assign rfl) ?_
            refine wl_nil ?_
            refine rk_if rfl (fun h122 => absurd h122 (by omega)) (fun h122 => ?_)
            refine rk_seq ?_
            refine rk_region ?_
            refine wl_p (fun _ => o_eq rfl rfl) ?_
            refine wl_p (fun _ => o_assign rfl) ?_
            refine wl_nil ?_
            refine rk_if rfl (fun h140 => ?_) (fun h140 => h140.elim (by omega))
            refine rk_seq ?_
            refine rk_seq ?_
            refine rk_region ?_
            refine wl_p (fun _ => o_move rfl) ?_
            refine wl_call rfl (C_pSync _ f41 f36 hS1 hC1) ?_
            rintro v143 w143 ⟨rfl, ⟨f143, g143⟩⟩
            have s143 := g143.size
            replace hw := hw.trans (g143.below hw.size (by omega))
            replace f := f.c g143 (by omega)
            replace f41 := f41.c g143 (by omega)
            replace f46 := f46.c g143 (by omega)
            replace fc := fc.c g143 (by omega)
            replace f47 := f47.c g143 (by omega)
            clear f36
            refine wl_p (fun _ => o_ne rfl rfl) ?_
            refine wl_nil ?_
            refine rk_false rfl ?_
            refine rk_skip ?_
            refine rk_seq ?_
            refine rk_region ?_
            refine wl_p (fun _ => o_move rfl) ?_
            refine wl_rangeV Tryd.underlying47 rfl f46 ?_
            rintro r0 w146 fi b146 i146 j146
            have sb146 := b146.size
            replace hw := hw.trans (b146.mono hw.size)
            replace f47 := f47.u b146
            replace fc := fc.u b146
            replace f46 := f46.u b146
            replace f41 := f41.u b146
            replace f := f.u b146
            replace f143 := f143.u b146
            have hsz := hw.size
            refine wl_nil ?_
            refine rk_block ?_
            refine rk_joinf (fun fb fr V => ∃ Y1, fr = [] ++ fb ∧ PgInv n S1 C1 H Y1 ∧ DkAt V w31.heap.size w36.heap.size g36 S1 C1 ∧ PgAt V g g36 ul uh (usH H) ∧ MapV V bh CV ∧ Cv V w36.heap.size CV H ∧ MapV V bs Y1 ∧ w47.heap.size ≤ V.heap.size ∧ Below w.heap.size w V) ?_ (fun ks3 hj3 => ?_)
            rotate_left
            · refine rk_loopf (fun fb m fr V => ∃ (lf : Int → Bool) (Y1 : List (Option Value)), fr = [] ++ fb ∧ IterV V r0 bh CV lf m ∧ PgInv n S1 C1 H Y1 ∧ DkAt V w31.heap.size w36.heap.size g36 S1 C1 ∧ PgAt V g g36 ul uh (usH H) ∧ Cv V w36.heap.size CV H ∧ MapV V bs Y1 ∧ w146.heap.size ≤ V.heap.size ∧ Below w.heap.size w V) (n := cntG CV) (Fr.le_of (by kernel_rfl) (by kernel_rfl) (by repeat' constructor)) ⟨_, Y, rfl, fi, hinv1, by assumption, f41, fc, f47, Nat.le_refl _, hw⟩ ?_
              clear fi f41 fc f47 f46 hw hinv1
              rintro m fr V3 ⟨lf, Y1, rfl, fi, hinv1, f36, f41, fc, f47, hsV, hw⟩
              have hyl1 := hinv1.yl
              first | refine rk_frame (by simp only [List.cons_append, List.nil_append, List.drop_succ_cons, List.drop_zero]; rfl) ?_ | refine wl_frame (by simp only [List.cons_append, List.nil_append, List.drop_succ_cons, List.drop_zero]; rfl) ?_
              refine rk_seq ?_
              refine rk_region ?_
              refine wl_nextV rfl fi (by omega) (fun h0 => ?_) (fun i2 s W1 k1 hi2 hci hlf fi1 hk1 hg1 hs1 hen => ?_)
              · have f46 := fi.to_MapV
                refine wl_p (fun _ => o_extV10 rfl) ?_
                refine wl_nil ?_
                refine rk_seq ?_
                refine rk_false rfl ?_
                refine rk_exit rfl ?_
                exact rk_tof hj3 (Fr.le_of (by kernel_rfl) (by kernel_rfl) (by repeat' constructor)) ⟨Y1, rfl, hinv1, f36, f41, f46, fc, f47, by omega, hw⟩
              · have hc1 : Chg r0 (r0 + 1) V3 W1 := Chg.of_g1 hg1 (Nat.le_refl _) (Nat.lt_succ_self _)
                replace f36 := f36.c hc1 (by omega)
                replace f41 := f41.c hc1 (by omega)
                replace fc := fc.it hg1 fi.objs.2
                replace f47 := f47.c hc1 (by omega)
                replace hw := hw.trans (below_of_grownBy hg1 hw.size (by omega))
                clear fi
                refine wl_p (fun _ => o_ext30 rfl) ?_
                refine wl_nil ?_
                refine rk_seq ?_
                refine rk_true rfl ?_
                refine rk_skip ?_
                refine rk_block ?_
                refine rk_seq ?_
                refine rk_region ?_
                refine wl_r (o_entryV rfl hen) ?_
                clear hen
                have fj : IterW W1 bs r0 bh CV (fun z => lf z && decide (z ≠ i2)) k1 := ⟨by omega, fi1⟩
                clear fi1
                have hmk := hinv1.mark (k := i2) hCe (by omega)
                have hobj := f47.obj
                refine wl_p (fun _ => o_ext20 rfl) ?_
                refine wl_p (fun _ => o_assign rfl) ?_
                refine wl_nil ?_
                refine rk_region ?_
                refine wl_p (fun _ => o_move rfl) ?_
                refine wl_p (fun _ => o_move rfl) ?_
                refine wl_putY rfl rfl f47 rfl rfl (by omega) (by omega) ?_
                rintro w_2 f_1 g_2 e_1
                have s_1 := g_2.size
                replace hw := hw.trans (below_of_grownBy g_2.g hw.size (by omega))
                replace fj := fj.m g_2
                replace fc := fc.m g_2
                replace f41 := f41.m g_2
                replace f36 := f36.k g_2.g (ap_some (by omega))
                clear f47
                refine wl_nil ?_
                refine rk_blk ?_
                exact rk_againf (Fr.le_of (by kernel_rfl) (by kernel_rfl) (by repeat' constructor)) ⟨_, Y1.set i2 (some (.int .i64 1)), rfl, fj.2, hmk, f36, f41, fc, by assumption, by omega, hw⟩ hk1
            clear f41 fc f47 f46 hw hinv1
            rintro fr V3 ⟨Y1, rfl, hinv1, f36, f41, f46, fc, f47, hsV, hw⟩
            first | refine rk_frame (by simp only [List.cons_append, List.nil_append, List.drop_succ_cons, List.drop_zero]; rfl) ?_ | refine wl_frame (by simp only [List.cons_append, List.nil_append, List.drop_succ_cons, List.drop_zero]; rfl) ?_
            refine rk_blk ?_
            exact rk_tof hj2 (Fr.le_of (by kernel_rfl) (by kernel_rfl) (by repeat' constructor)) ⟨S1, C1, H, CV, Y1, g, ul, uh, rfl, hinv1, f36, f41, f46, fc, f47, hb1, hb2, hb3, hsV, hw⟩
          by_cases h6 : t = 6
          · obtain ⟨kp, hkp⟩ : ∃ kp, L[i].2.2.1.map (fun z => decide (z.tmod 2 ≠ 0)) = kp := ⟨_, rfl⟩
            have hkpl : kp.length ≤ 80 := by rw [← hkp, List.length_map]; exact hkl
            obtain ⟨S1, hS1⟩ : ∃ S1, crash S C kp = S1 := ⟨_, rfl⟩
            obtain ⟨C1, hC1⟩ : ∃ C1 : List (Option Sec), List.replicate S.length none = C1 := ⟨_, rfl⟩
            have hS1l : S1.length = 2 * n := by rw [← hS1, crash_len, hsl]
            have hS12 : S1.length / 2 = n := by omega
            have hX : cur S1 C1 = S1 := by rw [← hC1, cur_none]
            obtain ⟨I, hI⟩ : ∃ I, usdZ (usH H) (usH H).length = I := ⟨_, rfl⟩
            have hIl : I.length ≤ 100000 := by rw [← hI, usdZ_len]; have := usd_le (usH H) (usH H).length; omega
            have hoI : openOk n I = true := by rw [← hI]; exact usdZ_all (by omega)
            have hUI : markAll (List.replicate n false) I = usH H := by rw [← hI]; exact markAll_usd (by omega)
            refine rk_seq ?_
            refine rk_seq ?_
            refine rk_region ?_
            refine wl_p (fun _ => o_eq rfl rfl) ?_
            refine wl_p (fun _ => o_assign rfl) ?_
            refine wl_nil ?_
            refine rk_if rfl (fun h61 => absurd h61 (by omega)) (fun h61 => ?_)
            refine rk_region ?_
            refine wl_p (fun _ => o_eq rfl rfl) ?_
            refine wl_p (fun _ => o_assign rfl) ?_
            refine wl_nil ?_
            refine rk_if rfl (fun h61 => absurd h61 (by omega)) (fun h61 => ?_)
            refine rk_seq ?_
            refine rk_region ?_
            refine wl_p (fun _ => o_eq rfl rfl) ?_
            refine wl_p (fun _ => o_assign rfl) ?_
            refine wl_nil ?_
            refine rk_if rfl (fun h122 => absurd h122 (by omega)) (fun h122 => ?_)
            refine rk_seq ?_
            refine rk_region ?_
            refine wl_p (fun _ => o_eq rfl rfl) ?_
            refine wl_p (fun _ => o_assign rfl) ?_
            refine wl_nil ?_
            refine rk_if rfl (fun h140 => absurd h140 (by omega)) (fun h140 => ?_)
            refine rk_seq ?_
            refine rk_region ?_
            refine wl_p (fun _ => o_eq rfl rfl) ?_
            refine wl_p (fun _ => o_assign rfl) ?_
            refine wl_nil ?_
            refine rk_if rfl (fun h153 => ?_) (fun h153 => h153.elim (by omega))
            refine rk_seq ?_
            refine rk_region ?_
            refine wl_p (fun _ => o_move rfl) ?_
            refine wl_call rfl (C_pUsed _ (hT.u hw) f41 hI) ?_
            rintro v156 w156 ⟨A156, ⟨c156, ⟨rfl, ⟨f156, b156⟩⟩⟩⟩
            have qf156 := f156.cap
            have s156 := b156.size
            replace hw := hw.trans (b156.mono hw.size)
            replace f := f.u b156
            replace f36 := f36.u b156
            replace f41 := f41.u b156
            replace f46 := f46.u b156
            replace fc := fc.u b156
            replace f47 := f47.u b156
            refine wl_p (fun _ => o_assign rfl) ?_
            refine wl_nil ?_
            refine rk_seq ?_
            refine rk_seq ?_
            refine rk_region ?_
            refine wl_p (fun _ => o_move rfl) ?_
            refine wl_p (fun _ => o_faddr (s := 50) (i := 2) (off := 2) Tryd.underlying50 rfl Tryd.sizeOf35 rfl rfl rfl) ?_
            refine wl_r (o_loadbg Tryd.isAgg35 rfl f (by rfl)) ?_
            refine wl_call rfl (C_keep10 _ (f57.u hw) hkp rfl (by omega)) ?_
            rintro v160 w160 ⟨A160, ⟨c160, ⟨rfl, ⟨f160, b160⟩⟩⟩⟩
            have qf160 := f160.cap
            have s160 := b160.size
            replace hw := hw.trans (b160.mono hw.size)
            replace f47 := f47.u b160
            replace fc := fc.u b160
            replace f46 := f46.u b160
            replace f41 := f41.u b160
            replace f36 := f36.u b160
            replace f := f.u b160
            replace f156 := f156.u b160
            refine wl_call rfl (C_dCrash _ f36 f160.to_RdBo hS1 hC1 (by omega) rfl (by omega)) ?_
            rintro v161 w161 ⟨rfl, ⟨f161, g161⟩⟩
            have s161 := g161.size
            replace hw := hw.trans (g161.below hw.size (by omega))
            replace f156 := f156.c g161 (by omega)
            replace f := f.c g161 (by omega)
            replace f41 := f41.c g161 (by omega)
            replace f46 := f46.c g161 (by omega)
            replace fc := fc.c g161 (by omega)
            replace f47 := f47.c g161 (by omega)
            replace f160 := f160.c g161 (by omega)
            clear f36
            refine wl_p (fun _ => o_ne rfl rfl) ?_
            refine wl_nil ?_
            refine rk_false rfl ?_
            refine rk_skip ?_
            refine rk_seq ?_
            refine rk_region ?_
            refine wl_p (fun _ => o_move rfl) ?_
            refine wl_p (fun _ => o_move rfl) ?_
            refine wl_call rfl (C_pOpenOk _ f161 f156.to_RZ rfl (by omega) hS12 hoI hUI) ?_
            rintro v166 w166 ⟨g166, ⟨rfl, ⟨f166, ⟨i166, ⟨i166_1, b166⟩⟩⟩⟩⟩
            have s166 := b166.size
            replace hw := hw.trans (b166.mono hw.size)
            replace f160 := f160.u b166
            replace f47 := f47.u b166
            replace fc := fc.u b166
            replace f46 := f46.u b166
            replace f41 := f41.u b166
            replace f := f.u b166
            replace f156 := f156.u b166
            replace f161 := f161.u b166
            refine wl_p (fun _ => o_move rfl) ?_
            refine wl_p (fun _ => o_ext20 rfl) ?_
            refine wl_p (fun _ => o_ext21 rfl) ?_
            refine wl_p (fun _ => o_assign rfl) ?_
            refine wl_p (fun _ => o_assign rfl) ?_
            refine wl_nil ?_
            refine rk_seq ?_
            refine rk_seq ?_
            refine rk_region ?_
            refine wl_p (fun _ => o_move rfl) ?_
            refine wl_p (fun _ => o_ne rfl rfl) ?_
            refine wl_nil ?_
            refine rk_false rfl ?_
            refine rk_skip ?_
            refine rk_seq ?_
            refine rk_region ?_
            refine wl_p (fun _ => o_move rfl) ?_
            refine wl_rangeV Tryd.underlying47 rfl f46 ?_
            rintro r0 w172 fi b172 i172 j172
            have sb172 := b172.size
            replace hw := hw.trans (b172.mono hw.size)
            replace f161 := f161.u b172
            replace f156 := f156.u b172
            replace f := f.u b172
            replace f41 := f41.u b172
            replace f46 := f46.u b172
            replace fc := fc.u b172
            replace f47 := f47.u b172
            replace f160 := f160.u b172
            replace f166 := f166.u b172
            have hsz := hw.size
            refine wl_nil ?_
            refine rk_block ?_
            refine rk_joinf (fun fb fr V => ∃ (H1 : List (Option By)) (CV1 : List (Option Value)), fr = [] ++ fb ∧ PgInv n S1 C1 H1 Y ∧ DkAt V w31.heap.size w36.heap.size g36 S1 C1 ∧ PgAt V g166 g36 w161.heap.size w166.heap.size (usH H1) ∧ MapV V bh CV1 ∧ Cv V w36.heap.size CV1 H1 ∧ MapV V bs Y ∧ w47.heap.size ≤ V.heap.size ∧ Below w.heap.size w V) ?_ (fun ks3 hj3 => ?_)
            rotate_left
            · refine rk_loopf (fun fb m fr V => ∃ (lf : Int → Bool) (H1 : List (Option By)) (CV1 : List (Option Value)), fr = [] ++ fb ∧ IterV V r0 bh CV1 lf m ∧ H1.length = n ∧ (∀ (k : Nat) b, gAt H1 (k : Int) = some b → gAt H (k : Int) = some b ∧ (lf k = true ∨ (gAt Y (k : Int)).isSome = true)) ∧ DkAt V w31.heap.size w36.heap.size g36 S1 C1 ∧ PgAt V g166 g36 w161.heap.size w166.heap.size (usH H1) ∧ Cv V w36.heap.size CV1 H1 ∧ MapV V bs Y ∧ w172.heap.size ≤ V.heap.size ∧ Below w.heap.size w V) (n := cntG CV) (Fr.le_of (by kernel_rfl) (by kernel_rfl) (by repeat' constructor)) ⟨_, H, CV, rfl, fi, hhl, fun k b hb => ⟨hb, .inl (by
                  rcases fc.get_ (k : Int) with ⟨hg1, hg2⟩ | ⟨b2, A2, c2, hg1, hg2, hrd⟩
                  · rw [hg2] at hb; cases hb
                  · rw [hg2]; rfl)⟩, by assumption, by assumption, fc, f47, Nat.le_refl _, hw⟩ ?_
              clear fi fc f47 f46 hw
              rintro m fr V3 ⟨lf, H1, CV1, rfl, fi, hl1, hsub, f36, f41, fc, f47, hsV, hw⟩
              have hcl1 := fc.len
              have hul1 := usH_len H1
              have hUS1 : 2 * (usH H1).length ≤ S1.length := by omega
              first | refine rk_frame (by simp only [List.cons_append, List.nil_append, List.drop_succ_cons, List.drop_zero]; rfl) ?_ | refine wl_frame (by simp only [List.cons_append, List.nil_append, List.drop_succ_cons, List.drop_zero]; rfl) ?_
              refine rk_seq ?_
              refine rk_region ?_
              refine wl_nextV rfl fi (by omega) (fun h0 => ?_) (fun i2 s W1 k1 hi2 hci hlf fi1 hk1 hg1 hs1 hen => ?_)
              · have f46 := fi.to_MapV
                have hcr := hinv.crashed kp hl1 (fun k b hb => ⟨(hsub k b hb).1, by
                  rcases (hsub k b hb).2 with h | h
                  · have := gAt_lt hb
                    rw [h0 _ (wf_small (by omega) (by omega))] at h; cases h
                  · exact h⟩)
                rw [hS1, hC1] at hcr
                refine wl_p (fun _ => o_extV10 rfl) ?_
                refine wl_nil ?_
                refine rk_seq ?_
                refine rk_false rfl ?_
                refine rk_exit rfl ?_
                exact rk_tof hj3 (Fr.le_of (by kernel_rfl) (by kernel_rfl) (by repeat' constructor)) ⟨H1, CV1, rfl, hcr, f36, f41, f46, fc, f47, by omega, hw⟩
              · have hc1 : Chg r0 (r0 + 1) V3 W1 := Chg.of_g1 hg1 (Nat.le_refl _) (Nat.lt_succ_self _)
                replace f36 := f36.c hc1 (by omega)
                replace f41 := f41.c hc1 (by omega)
                replace fc := fc.it hg1 fi.objs.2
                replace f47 := f47.c hc1 (by omega)
                replace hw := hw.trans (below_of_grownBy hg1 hw.size (by omega))
                obtain ⟨b, A2, c2, hgb, rfl, hrd⟩ := fc.some_ hi2 hci
                have hgv : gAt CV1 (i2 : Int) = some (.slice A2 b.length c2) := by rw [gAt_nat hi2, hci]
                have wi2 : (Lit.int .i64 (i2 : Int)).wf = true := wf_small (by omega) (by omega)
                have hub : (usH H1).getD i2 false = true := by rw [usH_get, hgb]; rfl
                clear fi
                cases hy : gAt Y (i2 : Int) with
                | some v =>
                  obtain rfl := hinv.yv _ _ hy
                  have hread := hinv.reads kp (hsub i2 b hgb).1 (by rw [hy]; rfl) hub
                  rw [hS1] at hread
                  have f46 := fi1.to_MapV
                  refine wl_p (fun _ => o_ext30 rfl) ?_
                  refine wl_nil ?_
                  refine rk_seq ?_
                  refine rk_true rfl ?_
                  refine rk_skip ?_
                  refine rk_block ?_
                  refine rk_seq ?_
                  refine rk_region ?_
                  refine wl_r (o_entryV rfl hen) ?_
                  clear hen
                  refine wl_p (fun _ => o_ext20 rfl) ?_
                  refine wl_p (fun _ => o_assign rfl) ?_
                  refine wl_nil ?_
                  refine rk_seq ?_
                  refine rk_region ?_
                  refine wl_p (fun _ => o_move rfl) ?_
                  refine wl_p (fun _ => o_move rfl) ?_
                  refine wl_call rfl (C_pRead _ f41 f36 hX hread (by omega) wi2) ?_
                  rintro v180 w180 ⟨A180, ⟨c180, ⟨rfl, ⟨f180, ⟨i180, b180⟩⟩⟩⟩⟩
                  dsimp only at f180
                  dsimp only at i180
                  dsimp only
                  have s180 := b180.size
                  replace hw := hw.trans (b180.mono hw.size)
                  replace hc1 := hc1.thenB b180
                  replace f46 := f46.u b180
                  replace hrd := hrd.u b180
                  replace f47 := f47.u b180
                  replace fc := fc.u b180
                  replace f41 := f41.u b180
                  replace f36 := f36.u b180
                  replace fi1 := fi1.u b180
                  refine wl_p (fun _ => o_move rfl) ?_
                  refine wl_p (fun _ => o_ext20 rfl) ?_
                  refine wl_p (fun _ => o_ext21 rfl) ?_
                  refine wl_p (fun _ => o_assign rfl) ?_
                  refine wl_p (fun _ => o_assign rfl) ?_
                  refine wl_nil ?_
                  refine rk_seq ?_
                  refine rk_seq ?_
                  refine rk_region ?_
                  refine wl_p (fun _ => o_move rfl) ?_
                  refine wl_p (fun _ => o_move rfl) ?_
                  refine wl_r (o_lookY1 rfl rfl f47 hy wi2) ?_
                  refine wl_p (fun _ => o_ne rfl rfl) ?_
                  refine wl_p (fun _ => o_move rfl) ?_
                  refine wl_p (fun _ => o_move rfl) ?_
                  refine wl_p (fun _ => o_ne rfl rfl) ?_
                  refine wl_p (fun _ => o_move rfl) ?_
                  refine wl_p (fun _ => o_move rfl) ?_
                  refine wl_r (o_strU Tryd.underlying22 Tryd.underlying5 Tryd.underlying9 rfl f180.to_Rd (Below.refl _ _) rfl) ?_
                  refine wl_p (fun _ => o_move rfl) ?_
                  refine wl_p (fun _ => o_move rfl) ?_
                  refine wl_r (o_lookH1 rfl rfl fi1.to_MapV hgv wi2) ?_
                  refine wl_r (o_strU Tryd.underlying22 Tryd.underlying5 Tryd.underlying9 rfl hrd (Below.refl _ _) rfl) ?_
                  refine wl_p (fun _ => o_sne rfl rfl) ?_
                  refine wl_p (fun _ => o_pick_f rfl rfl) ?_
                  refine wl_p (fun _ => o_pick_t rfl rfl) ?_
                  refine wl_p (fun _ => o_move rfl) ?_
                  refine wl_know 200 false rfl (by simp) ?_
                  refine wl_p (fun _ => o_move rfl) ?_
                  refine wl_p (fun _ => o_ne rfl rfl) ?_
                  refine wl_p (fun _ => o_move rfl) ?_
                  refine wl_off ?_
                  refine wl_off ?_
                  refine wl_p (fun _ => o_pick_f rfl rfl) ?_
                  refine wl_p (fun _ => o_pick_f rfl rfl) ?_
                  refine wl_nil ?_
                  refine rk_false rfl ?_
                  refine rk_skip ?_
                  refine rk_seq ?_
                  refine rk_region ?_
                  refine wl_p (fun _ => o_move rfl) ?_
                  refine wl_p (fun _ => o_move rfl) ?_
                  refine wl_r (o_lookY1 rfl rfl f47 hy wi2) ?_
                  refine wl_p (fun _ => o_eq rfl rfl) ?_
                  refine wl_nil ?_
                  refine rk_false rfl ?_
                  refine rk_skip ?_
                  refine rk_blk ?_
                  exact rk_againf (Fr.le_of (by kernel_rfl) (by kernel_rfl) (by repeat' constructor)) ⟨_, H1, CV1, rfl, fi1, hl1, fun k c hc => ⟨(hsub k c hc).1, by
                    by_cases e : k = i2
                    · subst e; exact .inr (by rw [hy]; rfl)
                    · rcases (hsub k c hc).2 with h | h
                      · exact .inl (by rw [h]; simp; omega)
                      · exact .inr h⟩, f36, f41, fc, f47, by omega, hw⟩ hk1
                | none =>
                  obtain ⟨r, hr⟩ : ∃ r, readP S1 (usH H1) (i2 : Int) = r := ⟨_, rfl⟩
                  have hr2 := readP_used (X := S1) hub
                  rw [hr] at hr2
                  obtain ⟨r1, r2⟩ := r
                  have hfr : freeP (usH H1) (i2 : Int) = (0, usH (H1.set i2 none)) := by rw [freeP, usH_at, hgb, ← usH_del]; rfl
                  rcases hr2 with hr2 | hr2
                  · dsimp only at hr2
                    subst hr2
                    refine wl_p (fun _ => o_ext30 rfl) ?_
                    refine wl_nil ?_
                    refine rk_seq ?_
                    refine rk_true rfl ?_
                    refine rk_skip ?_
                    refine rk_block ?_
                    refine rk_seq ?_
                    refine rk_region ?_
                    refine wl_r (o_entryV rfl hen) ?_
                    clear hen
                    refine wl_p (fun _ => o_ext20 rfl) ?_
                    refine wl_p (fun _ => o_assign rfl) ?_
                    refine wl_nil ?_
                    refine rk_seq ?_
                    refine rk_region ?_
                    refine wl_p (fun _ => o_move rfl) ?_
                    refine wl_p (fun _ => o_move rfl) ?_
                    refine wl_call rfl (C_pRead _ f41 f36 hX hr (by omega) wi2) ?_
                    rintro v180 w180 ⟨A180, ⟨c180, ⟨rfl, ⟨f180, ⟨i180, b180⟩⟩⟩⟩⟩
                    dsimp only at f180
                    dsimp only at i180
                    dsimp only
                    have s180 := b180.size
                    replace hw := hw.trans (b180.mono hw.size)
                    replace hc1 := hc1.thenB b180
                    replace hrd := hrd.u b180
                    replace f47 := f47.u b180
                    replace fc := fc.u b180
                    replace f41 := f41.u b180
                    replace f36 := f36.u b180
                    replace fi1 := fi1.u b180
                    refine wl_p (fun _ => o_move rfl) ?_
                    refine wl_p (fun _ => o_ext20 rfl) ?_
                    refine wl_p (fun _ => o_ext21 rfl) ?_
                    refine wl_p (fun _ => o_assign rfl) ?_
                    refine wl_p (fun _ => o_assign rfl) ?_
                    refine wl_nil ?_
                    refine rk_seq ?_
                    refine rk_seq ?_
                    refine rk_region ?_
                    refine wl_p (fun _ => o_move rfl) ?_
                    refine wl_p (fun _ => o_move rfl) ?_
                    refine wl_r (o_lookY0 rfl rfl f47 hy wi2) ?_
                    refine wl_p (fun _ => o_ne rfl rfl) ?_
                    refine wl_p (fun _ => o_move rfl) ?_
                    refine wl_off ?_
                    refine wl_off ?_
                    refine wl_off ?_
                    refine wl_off ?_
                    refine wl_off ?_
                    refine wl_off ?_
                    refine wl_off ?_
                    refine wl_off ?_
                    refine wl_off ?_
                    refine wl_off ?_
                    refine wl_off ?_
                    refine wl_p (fun _ => o_pick_f rfl rfl) ?_
                    refine wl_p (fun _ => o_move rfl) ?_
                    refine wl_p (fun _ => o_move rfl) ?_
                    refine wl_p (fun _ => o_ne rfl rfl) ?_
                    refine wl_p (fun _ => o_move rfl) ?_
                    refine wl_off ?_
                    refine wl_off ?_
                    refine wl_p (fun _ => o_pick_f rfl rfl) ?_
                    refine wl_p (fun _ => o_pick_f rfl rfl) ?_
                    refine wl_nil ?_
                    refine rk_false rfl ?_
                    refine rk_skip ?_
                    refine rk_seq ?_
                    refine rk_region ?_
                    refine wl_p (fun _ => o_move rfl) ?_
                    refine wl_p (fun _ => o_move rfl) ?_
                    refine wl_r (o_lookY0 rfl rfl f47 hy wi2) ?_
                    refine wl_p (fun _ => o_eq rfl rfl) ?_
                    refine wl_nil ?_
                    refine rk_true rfl ?_
                    refine rk_seq ?_
                    refine rk_region ?_
                    refine wl_p (fun _ => o_move rfl) ?_
                    refine wl_p (fun _ => o_move rfl) ?_
                    refine wl_call rfl (C_pFreeN _ f41 hfr wi2) ?_
                    rintro v214 w214 ⟨rfl, ⟨f214, ⟨⟨row214, g214⟩, g214_1⟩⟩⟩
                    dsimp only at f214
                    dsimp only
                    have s214 := g214.size
                    replace hw := hw.trans (g214_1.below hw.size (by omega))
                    replace fi1 := fi1.y g214 (by decide)
                    replace f36 := f36.c g214_1 (by omega)
                    replace fc := fc.y g214 (by decide)
                    replace f47 := f47.y g214 (by decide)
                    replace f180 := f180.c g214_1 (by omega)
                    clear f41
                    clear hrd
                    refine wl_nil ?_
                    refine rk_region ?_
                    refine wl_p (fun _ => o_move rfl) ?_
                    refine wl_p (fun _ => o_move rfl) ?_
                    refine wl_delItH rfl rfl fi1 rfl (by omega) (by omega) ?_
                    rintro w_2 k f_1 i_1 g_2 e_1
                    have s_1 := g_2.size
                    replace hw := hw.trans (below_of_grownBy g_2.g hw.size (by omega))
                    replace f180 := f180.k g_2.g (ap_some (by omega))
                    replace f47 := f47.k g_2.g (ap_some (by omega))
                    replace fc := fc.m g_2
                    replace f36 := f36.k g_2.g (ap_some (by omega))
                    replace f214 := f214.m g_2
                    clear fi1
                    refine wl_nil ?_
                    refine rk_blk ?_
                    have fd := fc.del_ i2
                    exact rk_againf (Fr.le_of (by kernel_rfl) (by kernel_rfl) (by repeat' constructor)) ⟨_, H1.set i2 none, CV1.set i2 none, rfl, by assumption, by rw [List.length_set]; exact hl1, fun k c hc => by
                      rw [gAt_set (by omega)] at hc
                      split at hc
                      · cases hc
                      · rename_i e
                        refine ⟨(hsub k c hc).1, ?_⟩
                        rcases (hsub k c hc).2 with h | h
                        · exact .inl (by rw [h]; simp; omega)
                        · exact .inr h, f36, by assumption, fd, f47, by omega, hw⟩ (by omega)
                  · dsimp only at hr2
                    subst hr2
                    refine wl_p (fun _ => o_ext30 rfl) ?_
                    refine wl_nil ?_
                    refine rk_seq ?_
                    refine rk_true rfl ?_
                    refine rk_skip ?_
                    refine rk_block ?_
                    refine rk_seq ?_
                    refine rk_region ?_
                    refine wl_r (o_entryV rfl hen) ?_
                    clear hen
                    refine wl_p (fun _ => o_ext20 rfl) ?_
                    refine wl_p (fun _ => o_assign rfl) ?_
                    refine wl_nil ?_
                    refine rk_seq ?_
                    refine rk_region ?_
                    refine wl_p (fun _ => o_move rfl) ?_
                    refine wl_p (fun _ => o_move rfl) ?_
                    refine wl_call rfl (C_pRead _ f41 f36 hX hr (by omega) wi2) ?_
                    rintro v180 w180 ⟨A180, ⟨c180, ⟨rfl, ⟨f180, ⟨i180, b180⟩⟩⟩⟩⟩
                    dsimp only at f180
                    dsimp only at i180
                    dsimp only
                    have s180 := b180.size
                    replace hw := hw.trans (b180.mono hw.size)
                    replace hc1 := hc1.thenB b180
                    replace hrd := hrd.u b180
                    replace f47 := f47.u b180
                    replace fc := fc.u b180
                    replace f41 := f41.u b180
                    replace f36 := f36.u b180
                    replace fi1 := fi1.u b180
                    refine wl_p (fun _ => o_move rfl) ?_
                    refine wl_p (fun _ => o_ext20 rfl) ?_
                    refine wl_p (fun _ => o_ext21 rfl) ?_
                    refine wl_p (fun _ => o_assign rfl) ?_
                    refine wl_p (fun _ => o_assign rfl) ?_
                    refine wl_nil ?_
                    refine rk_seq ?_
                    refine rk_seq ?_
                    refine rk_region ?_
                    refine wl_p (fun _ => o_move rfl) ?_
                    refine wl_p (fun _ => o_move rfl) ?_
                    refine wl_r (o_lookY0 rfl rfl f47 hy wi2) ?_
                    refine wl_p (fun _ => o_ne rfl rfl) ?_
                    refine wl_p (fun _ => o_move rfl) ?_
                    refine wl_off ?_
                    refine wl_off ?_
                    refine wl_off ?_
                    refine wl_off ?_
                    refine wl_off ?_
                    refine wl_off ?_
                    refine wl_off ?_
                    refine wl_off ?_
                    refine wl_off ?_
                    refine wl_off ?_
                    refine wl_off ?_
                    refine wl_p (fun _ => o_pick_f rfl rfl) ?_
                    refine wl_p (fun _ => o_move rfl) ?_
                    refine wl_p (fun _ => o_move rfl) ?_
                    refine wl_p (fun _ => o_ne rfl rfl) ?_
                    refine wl_p (fun _ => o_move rfl) ?_
                    refine wl_p (fun _ => o_move rfl) ?_
                    refine wl_p (fun _ => o_ne rfl rfl) ?_
                    refine wl_p (fun _ => o_pick_t rfl rfl) ?_
                    refine wl_p (fun _ => o_pick_f rfl rfl) ?_
                    refine wl_nil ?_
                    refine rk_false rfl ?_
                    refine rk_skip ?_
                    refine rk_seq ?_
                    refine rk_region ?_
                    refine wl_p (fun _ => o_move rfl) ?_
                    refine wl_p (fun _ => o_move rfl) ?_
                    refine wl_r (o_lookY0 rfl rfl f47 hy wi2) ?_
                    refine wl_p (fun _ => o_eq rfl rfl) ?_
                    refine wl_nil ?_
                    refine rk_true rfl ?_
                    refine rk_seq ?_
                    refine rk_region ?_
                    refine wl_p (fun _ => o_move rfl) ?_
                    refine wl_p (fun _ => o_move rfl) ?_
                    refine wl_call rfl (C_pFreeN _ f41 hfr wi2) ?_
                    rintro v214 w214 ⟨rfl, ⟨f214, ⟨⟨row214, g214⟩, g214_1⟩⟩⟩
                    dsimp only at f214
                    dsimp only
                    have s214 := g214.size
                    replace hw := hw.trans (g214_1.below hw.size (by omega))
                    replace fi1 := fi1.y g214 (by decide)
                    replace f36 := f36.c g214_1 (by omega)
                    replace fc := fc.y g214 (by decide)
                    replace f47 := f47.y g214 (by decide)
                    replace f180 := f180.c g214_1 (by omega)
                    clear f41
                    clear hrd
                    refine wl_nil ?_
                    refine rk_region ?_
                    refine wl_p (fun _ => o_move rfl) ?_
                    refine wl_p (fun _ => o_move rfl) ?_
                    refine wl_delItH rfl rfl fi1 rfl (by omega) (by omega) ?_
                    rintro w_2 k f_1 i_1 g_2 e_1
                    have s_1 := g_2.size
                    replace hw := hw.trans (below_of_grownBy g_2.g hw.size (by omega))
                    replace f180 := f180.k g_2.g (ap_some (by omega))
                    replace f47 := f47.k g_2.g (ap_some (by omega))
                    replace fc := fc.m g_2
                    replace f36 := f36.k g_2.g (ap_some (by omega))
                    replace f214 := f214.m g_2
                    clear fi1
                    refine wl_nil ?_
                    refine rk_blk ?_
                    have fd := fc.del_ i2
                    exact rk_againf (Fr.le_of (by kernel_rfl) (by kernel_rfl) (by repeat' constructor)) ⟨_, H1.set i2 none, CV1.set i2 none, rfl, by assumption, by rw [List.length_set]; exact hl1, fun k c hc => by
                      rw [gAt_set (by omega)] at hc
                      split at hc
                      · cases hc
                      · rename_i e
                        refine ⟨(hsub k c hc).1, ?_⟩
                        rcases (hsub k c hc).2 with h | h
                        · exact .inl (by rw [h]; simp; omega)
                        · exact .inr h, f36, by assumption, fd, f47, by omega, hw⟩ (by omega)
            clear fi fc f47 f46 hw hinv
            rintro fr V3 ⟨H1, CV1, rfl, hinv, f36, f41, f46, fc, f47, hsV, hw⟩
            first | refine rk_frame (by simp only [List.cons_append, List.nil_append, List.drop_succ_cons, List.drop_zero]; rfl) ?_ | refine wl_frame (by simp only [List.cons_append, List.nil_append, List.drop_succ_cons, List.drop_zero]; rfl) ?_
            refine rk_blk ?_
            exact rk_tof hj2 (Fr.le_of (by kernel_rfl) (by kernel_rfl) (by repeat' constructor)) ⟨S1, C1, H1, CV1, Y, g166, w161.heap.size, w166.heap.size, rfl, hinv, f36, f41, f46, fc, f47, by omega, by omega, by omega, hsV, hw⟩
          by_cases h01 : t = 0 ∨ t = 1
          · have hlb : L[i].2.2.2.length ≤ 500 := Nat.le_of_not_lt (fun h => hcont ⟨h01, h⟩)
            obtain ⟨k0, hk0⟩ : ∃ k0, least (usH H) = k0 := ⟨_, rfl⟩
            have hk0n : k0 ≤ n := by rw [← hk0]; have := least_le (usH H); omega
            have hlk := fun (j : Nat) (h : j < k0) => least_lt (U := usH H) (j := j) (by rw [hk0]; exact h)
            have hla := least_at (usH H)
            rw [hk0] at hla
            have wk0 : (Lit.int .i64 (k0 : Int)).wf = true := wf_small (by omega) (by omega)
            rcases h01 with h01 | h01
            · by_cases hkn : k0 < n
              · have hr := newP_ok (S := S) (C := C) hlb hk0 (by omega)
                rw [usH_put H k0 (bodyL L[i].2.2.2)] at hr
                refine rk_seq ?_
                refine rk_seq ?_
                refine rk_region ?_
                refine wl_p (fun _ => o_eq rfl rfl) ?_
                refine wl_p (fun _ => o_assign rfl) ?_
                refine wl_nil ?_
                refine rk_if rfl (fun h61 => ?_) (fun h61 => h61.elim (by omega))
                refine rk_skip ?_
                refine rk_if rfl (fun h61 => ?_) (fun h61 => h61.elim (by omega))
                refine rk_seq ?_
                refine rk_region ?_
                refine wl_p (fun _ => o_move rfl) ?_
                refine wl_p (fun _ => o_faddr (s := 50) (i := 3) (off := 3) Tryd.underlying50 rfl Tryd.sizeOf22 rfl rfl rfl) ?_
                refine wl_r (o_loadbg Tryd.isAgg22 rfl f (by rfl)) ?_
                refine wl_call rfl (C_OwnP _ (f57_1.u hw) rfl (by omega)) ?_
                rintro v68 w68 ⟨A68, ⟨c68, ⟨rfl, ⟨f68, b68⟩⟩⟩⟩
                have qf68 := f68.cap
                have s68 := b68.size
                replace hw := hw.trans (b68.mono hw.size)
                replace f := f.u b68
                replace f36 := f36.u b68
                replace f41 := f41.u b68
                replace f46 := f46.u b68
                replace fc := fc.u b68
                replace f47 := f47.u b68
                refine wl_call rfl (C_pNew _ (hT.u hw) f41 f36 f68.to_Rd hr rfl (by omega) (by omega) (by omega) (by omega) (by omega)) ?_
                rintro v69 w69 ⟨rfl, ⟨f69, ⟨f69_1, ⟨w169, ⟨g69, ⟨g69_1, ⟨row69, g69_2⟩⟩⟩⟩⟩⟩⟩
                dsimp only at f69
                dsimp only at f69_1
                dsimp only
                have s69 := g69.size
                replace hw := hw.trans (g69.below hw.size (by omega))
                replace f47 := f47.c g69 (by omega)
                replace fc := fc.c g69 (by omega)
                replace f46 := f46.c g69 (by omega)
                replace f41 := f41.c g69 (by omega)
                replace f := f.c g69 (by omega)
                replace f68 := f68.c g69 (by omega)
                clear f36
                have s69g69_1 := g69_1.size
                replace hw := hw.trans (g69_1.below hw.size (by omega))
                replace f68 := f68.c g69_1 (by omega)
                replace f := f.c g69_1 (by omega)
                replace f46 := f46.c g69_1 (by omega)
                replace fc := fc.y g69_2 (by decide)
                replace f47 := f47.y g69_2 (by decide)
                clear f41
                refine wl_p (fun _ => o_move rfl) ?_
                refine wl_p (fun _ => o_ext20 rfl) ?_
                refine wl_p (fun _ => o_ext21 rfl) ?_
                refine wl_p (fun _ => o_assign rfl) ?_
                refine wl_p (fun _ => o_assign rfl) ?_
                refine wl_nil ?_
                refine rk_seq ?_
                refine rk_region ?_
                refine wl_p (fun _ => o_assign rfl) ?_
                refine wl_nil ?_
                refine rk_seq ?_
                refine rk_block ?_
                refine rk_joinf (fun fb fr V => fr = [(15, .int .i64 (k0 : Int))] ++ fb.drop 1 ∧ V = w69) ?_ (fun ks3 hj3 => ?_)
                rotate_left
                · refine rk_loopf (fun fb m fr V => ∃ j : Nat, fr = [(15, .int .i64 (j : Int))] ++ fb.drop 1 ∧ j ≤ k0 ∧ m = k0 - j ∧ V = w69) (n := k0) (Fr.le_of (by kernel_rfl) (by kernel_rfl) (by repeat' constructor)) ⟨0, rfl, by omega, rfl, rfl⟩ ?_
                  rintro m fr V3 ⟨j, rfl, hj, rfl, rfl⟩
                  have wj : (Lit.int .i64 (j : Int)).wf = true := wf_small (by omega) (by omega)
                  first | refine rk_frame (by simp only [List.cons_append, List.nil_append, List.drop_succ_cons, List.drop_zero]; rfl) ?_ | refine wl_frame (by simp only [List.cons_append, List.nil_append, List.drop_succ_cons, List.drop_zero]; rfl) ?_
                  by_cases hjk : j < k0
                  · have hu := hlk j hjk
                    rw [usH_get] at hu
                    rcases fc.get_ (j : Int) with ⟨hg1, hg2⟩ | ⟨b, A2, c2, hg1, hg2, hrd⟩
                    · rw [hg2] at hu; cases hu
                    · have hbl := (hinv.pg j b hg1).1
                      refine rk_seq ?_
                      refine rk_seq ?_
                      refine rk_region ?_
                      refine wl_p (fun _ => o_move rfl) ?_
                      refine wl_p (fun _ => o_move rfl) ?_
                      refine wl_r (o_lookH1 rfl rfl f46 hg2 wj) ?_
                      refine wl_p (fun _ => o_len (t := 22) Tryd.underlying22 rfl) ?_
                      refine wl_p (fun _ => o_gt rfl rfl) ?_
                      refine wl_nil ?_
                      refine rk_if rfl (fun h76 => ?_) (fun h76 => h76.elim (by omega))
                      refine rk_skip ?_
                      refine rk_block ?_
                      refine rk_region ?_
                      refine wl_p (fun _ => o_move rfl) ?_
                      refine wl_p (fun _ => o_add rfl rfl (by omega) (by omega)) ?_
                      refine wl_p (fun _ => o_assign rfl) ?_
                      refine wl_nil ?_
                      refine rk_blk ?_
                      simp only [hbl]
                      exact rk_againf (Fr.le_of (by kernel_rfl) (by kernel_rfl) (by repeat' constructor)) ⟨j + 1, rfl, by omega, rfl, rfl⟩ (by omega)
                  · obtain rfl : j = k0 := by omega
                    rw [usH_get] at hla
                    rcases fc.get_ (j : Int) with ⟨hg1, hg2⟩ | ⟨b, A2, c2, hg1, hg2, hrd⟩
                    · refine rk_seq ?_
                      refine rk_seq ?_
                      refine rk_region ?_
                      refine wl_p (fun _ => o_move rfl) ?_
                      refine wl_p (fun _ => o_move rfl) ?_
                      refine wl_r (o_lookH0 rfl rfl f46 hg1 wj) ?_
                      refine wl_p (fun _ => o_len (t := 22) Tryd.underlying22 rfl) ?_
                      refine wl_p (fun _ => o_gt rfl rfl) ?_
                      refine wl_nil ?_
                      refine rk_false rfl ?_
                      refine rk_exit rfl ?_
                      exact rk_tof hj3 (Fr.le_of (by kernel_rfl) (by kernel_rfl) (by repeat' constructor)) ⟨rfl, rfl⟩
                    · rw [hg1] at hla; cases hla
                rintro fr V3 ⟨rfl, rfl⟩
                first | refine rk_frame (by simp only [List.cons_append, List.nil_append, List.drop_succ_cons, List.drop_zero]; rfl) ?_ | refine wl_frame (by simp only [List.cons_append, List.nil_append, List.drop_succ_cons, List.drop_zero]; rfl) ?_
                obtain ⟨m0, hm0⟩ : ∃ m, 500 - L[i].2.2.2.length = m := ⟨_, rfl⟩
                have hm2 : 500 - (L[i].2.2.2.length : Int) = (m0 : Int) := by omega
                by_cases h5 : L[i].2.2.2.length = 500
                · refine rk_seq ?_
                  refine rk_seq ?_
                  refine rk_region ?_
                  refine wl_p (fun _ => o_faddr (s := 50) (i := 3) (off := 3) Tryd.underlying50 rfl Tryd.sizeOf22 rfl rfl rfl) ?_
                  refine wl_r (o_loadbg Tryd.isAgg22 rfl f (by rfl)) ?_
                  refine wl_p (fun _ => o_len (t := 22) Tryd.underlying22 rfl) ?_
                  refine wl_p (fun _ => o_gt rfl rfl) ?_
                  refine wl_nil ?_
                  refine rk_if rfl (fun h82 => absurd h82 (by omega)) (fun h82 => ?_)
                  refine rk_skip ?_
                  refine rk_seq ?_
                  refine rk_seq ?_
                  refine rk_region ?_
                  refine wl_p (fun _ => o_move rfl) ?_
                  refine wl_p (fun _ => o_eq rfl rfl) ?_
                  refine wl_p (fun _ => o_move rfl) ?_
                  refine wl_p (fun _ => o_move rfl) ?_
                  refine wl_p (fun _ => o_lt rfl rfl) ?_
                  refine wl_p (fun _ => o_bne (t := 4) Tryd.underlying4 rfl rfl) ?_
                  refine wl_p (fun _ => o_move rfl) ?_
                  refine wl_know 91 false rfl (by simp; omega) ?_
                  refine wl_p (fun _ => o_move rfl) ?_
                  refine wl_p (fun _ => o_eq rfl rfl) ?_
                  refine wl_p (fun _ => o_move rfl) ?_
                  refine wl_p (fun _ => o_move rfl) ?_
                  refine wl_p (fun _ => o_move rfl) ?_
                  refine wl_p (fun _ => o_ne rfl rfl) ?_
                  refine wl_p (fun _ => o_pick_t rfl rfl) ?_
                  refine wl_p (fun _ => o_pick_f rfl rfl) ?_
                  refine wl_p (fun _ => o_move rfl) ?_
                  refine wl_know 100 false rfl (decide_eq_false (by omega)) ?_
                  refine wl_p (fun _ => o_move rfl) ?_
                  refine wl_p (fun _ => o_ne rfl rfl) ?_
                  refine wl_p (fun _ => o_move rfl) ?_
                  refine wl_off ?_
                  refine wl_off ?_
                  refine wl_p (fun _ => o_pick_f rfl rfl) ?_
                  refine wl_p (fun _ => o_pick_f rfl rfl) ?_
                  refine wl_nil ?_
                  refine rk_false rfl ?_
                  refine rk_skip ?_
                  refine rk_seq ?_
                  refine rk_region ?_
                  refine wl_p (fun _ => o_move rfl) ?_
                  refine wl_p (fun _ => o_eq rfl rfl) ?_
                  refine wl_nil ?_
                  refine rk_true rfl ?_
                  refine rk_seq ?_
                  refine rk_drawo (id := 28) (none) [0, 0, 0, 4, 8, 0, 32, 64, 128, 272, 1023] [0, 0, 0, 4, 12, 0, 32, 96, 224, 508, 1023] 1552 16 [0, 1, 2, 3, 5, 6, 7, 8, 4, 9, 10] [(.p, 0), (.p, 1), (.p, 2), (.r, 3), (.p, 5), (.s, 6), (.p, 7), (.p, 8), (.c, 4), (.l, 9), (.l, 10)] (by kernel_rfl) (by kernel_rfl) (by kernel_rfl) (by kernel_rfl) (by kernel_rfl) ?_
                  dsimp only [inOrder, nthOp]
                  replace hw := hw.drew
                  replace f47 := f47.d
                  replace fc := fc.d
                  replace f46 := f46.d
                  replace f := f.d
                  replace f68 := f68.d
                  replace f69_1 := f69_1.d
                  replace f69 := f69.d
                  refine wl_p (fun _ => o_move rfl) ?_
                  refine wl_p (fun _ => o_move rfl) ?_
                  refine wl_p (fun _ => o_faddr (s := 50) (i := 3) (off := 3) Tryd.underlying50 rfl Tryd.sizeOf22 rfl rfl rfl) ?_
                  refine wl_r (o_loadbg Tryd.isAgg22 rfl f (by rfl)) ?_
                  refine wl_p (fun _ => o_faddr (s := 50) (i := 3) (off := 3) Tryd.underlying50 rfl Tryd.sizeOf22 rfl rfl rfl) ?_
                  refine wl_s (fun _ hk => (o_loadbg Tryd.isAgg22 rfl (f.u (below_of_grown_none hk)) (by rfl))) ?_
                  refine wl_p (fun _ => o_len (t := 22) Tryd.underlying22 rfl) ?_
                  refine wl_p (fun _ => o_sub rfl rfl (by omega) (by omega)) ?_
                  refine wl_call rfl (C_OwnP _ (f57_1.u hw) rfl (by omega)) ?_ (hq := .inr fun _ _ h => grown_of_below h.choose_spec.choose_spec.2.2 _)
                  rintro v114 w114 ⟨A114, ⟨c114, ⟨rfl, ⟨f114, b114⟩⟩⟩⟩
                  simp only [drew_size] at f114
                  simp only [drew_size] at b114
                  have qf114 := f114.cap
                  have s114 := b114.size
                  simp only [drew_size] at s114
                  replace hw := hw.trans (b114.mono hw.size)
                  replace f69 := f69.u b114
                  replace f69_1 := f69_1.u b114
                  replace f68 := f68.u b114
                  replace f := f.u b114
                  replace f46 := f46.u b114
                  replace fc := fc.u b114
                  replace f47 := f47.u b114
                  refine wl_appZ00 rfl f114 rfl rfl (by omega) ?_
                  refine wl_putH rfl rfl f46 rfl rfl (by omega) (by omega) ?_
                  rintro w_2 f_1 g_2 e_1
                  have s_1 := g_2.size
                  replace hw := hw.trans (below_of_grownBy g_2.g hw.size (by omega))
                  replace f47 := f47.k g_2.g (ap_some (by omega))
                  replace fc := fc.m g_2
                  replace f := f.k g_2.g (ap_some (by omega))
                  replace f68 := f68.k g_2.g (ap_some (by omega))
                  replace f69_1 := f69_1.k g_2.g (ap_some (by omega))
                  replace f69 := f69.m g_2
                  replace f114 := f114.k g_2.g (ap_some (by omega))
                  clear f46
                  refine wl_nild ?_
                  refine rk_region ?_
                  refine wl_p (fun _ => o_move rfl) ?_
                  refine wl_p (fun _ => o_move rfl) ?_
                  refine wl_delY rfl rfl f47 rfl (by omega) (by omega) ?_
                  rintro w_3 f_2 g_3 e_2
                  have s_2 := g_3.size
                  replace hw := hw.trans (below_of_grownBy g_3.g hw.size (by omega))
                  replace f114 := f114.k g_3.g (ap_some (by omega))
                  replace f69 := f69.m g_3
                  replace f69_1 := f69_1.k g_3.g (ap_some (by omega))
                  replace f68 := f68.k g_3.g (ap_some (by omega))
                  replace f := f.k g_3.g (ap_some (by omega))
                  replace fc := fc.m g_3
                  replace f_1 := f_1.k g_3.g (ap_some (by omega))
                  clear f47
                  refine wl_nil ?_
                  refine rk_blk ?_
                  have eb := bodyL_full h5
                  have fd := fc.put_ k0 f114 (by omega)
                  rw [← eb] at fd
                  rw [congrArg List.length eb] at fd
                  exact rk_tof hj2 (Fr.le_of (by kernel_rfl) (by kernel_rfl) (by repeat' constructor)) ⟨S, _, H.set k0 (some (bodyL L[i].2.2.2)), _, Y.set k0 none, g, ul, uh, rfl, hinv.new hkn hlb, f69_1, f69, f_1, fd, f_2, hb1, hb2, hb3, by omega, hw⟩
                · have fb2 := fc.to_B (hi := V3.heap.size) (Nat.le_refl _)
                  clear fc
                  refine rk_seq ?_
                  refine rk_seq ?_
                  refine rk_region ?_
                  refine wl_p (fun _ => o_faddr (s := 50) (i := 3) (off := 3) Tryd.underlying50 rfl Tryd.sizeOf22 rfl rfl rfl) ?_
                  refine wl_r (o_loadbg Tryd.isAgg22 rfl f (by rfl)) ?_
                  refine wl_p (fun _ => o_len (t := 22) Tryd.underlying22 rfl) ?_
                  refine wl_p (fun _ => o_gt rfl rfl) ?_
                  refine wl_nil ?_
                  refine rk_if rfl (fun h82 => absurd h82 (by omega)) (fun h82 => ?_)
                  refine rk_skip ?_
                  refine rk_seq ?_
                  refine rk_seq ?_
                  refine rk_region ?_
                  refine wl_p (fun _ => o_move rfl) ?_
                  refine wl_p (fun _ => o_eq rfl rfl) ?_
                  refine wl_p (fun _ => o_move rfl) ?_
                  refine wl_p (fun _ => o_move rfl) ?_
                  refine wl_p (fun _ => o_lt rfl rfl) ?_
                  refine wl_p (fun _ => o_bne (t := 4) Tryd.underlying4 rfl rfl) ?_
                  refine wl_p (fun _ => o_move rfl) ?_
                  refine wl_know 91 false rfl (by simp; omega) ?_
                  refine wl_p (fun _ => o_move rfl) ?_
                  refine wl_p (fun _ => o_eq rfl rfl) ?_
                  refine wl_p (fun _ => o_move rfl) ?_
                  refine wl_p (fun _ => o_move rfl) ?_
                  refine wl_p (fun _ => o_move rfl) ?_
                  refine wl_p (fun _ => o_ne rfl rfl) ?_
                  refine wl_p (fun _ => o_pick_t rfl rfl) ?_
                  refine wl_p (fun _ => o_pick_f rfl rfl) ?_
                  refine wl_p (fun _ => o_move rfl) ?_
                  refine wl_know 100 false rfl (decide_eq_false (by omega)) ?_
                  refine wl_p (fun _ => o_move rfl) ?_
                  refine wl_p (fun _ => o_ne rfl rfl) ?_
                  refine wl_p (fun _ => o_move rfl) ?_
                  refine wl_off ?_
                  refine wl_off ?_
                  refine wl_p (fun _ => o_pick_f rfl rfl) ?_
                  refine wl_p (fun _ => o_pick_f rfl rfl) ?_
                  refine wl_nil ?_
                  refine rk_false rfl ?_
                  refine rk_skip ?_
                  refine rk_seq ?_
                  refine rk_region ?_
                  refine wl_p (fun _ => o_move rfl) ?_
                  refine wl_p (fun _ => o_eq rfl rfl) ?_
                  refine wl_nil ?_
                  refine rk_true rfl ?_
                  refine rk_seq ?_
                  refine rk_drawo (id := 28) (none) [0, 0, 0, 4, 8, 0, 32, 64, 128, 272, 1023] [0, 0, 0, 4, 12, 0, 32, 96, 224, 508, 1023] 1552 16 [0, 1, 2, 3, 5, 6, 7, 8, 4, 9, 10] [(.p, 0), (.p, 1), (.p, 2), (.r, 3), (.p, 5), (.s, 6), (.p, 7), (.p, 8), (.c, 4), (.l, 9), (.l, 10)] (by kernel_rfl) (by kernel_rfl) (by kernel_rfl) (by kernel_rfl) (by kernel_rfl) ?_
                  dsimp only [inOrder, nthOp]
                  replace hw := hw.drew
                  replace fb2 := fb2.d
                  replace f47 := f47.d
                  replace f46 := f46.d
                  replace f := f.d
                  replace f68 := f68.d
                  replace f69_1 := f69_1.d
                  replace f69 := f69.d
                  refine wl_p (fun _ => o_move rfl) ?_
                  refine wl_p (fun _ => o_move rfl) ?_
                  refine wl_p (fun _ => o_faddr (s := 50) (i := 3) (off := 3) Tryd.underlying50 rfl Tryd.sizeOf22 rfl rfl rfl) ?_
                  refine wl_r (o_loadbg Tryd.isAgg22 rfl f (by rfl)) ?_
                  refine wl_p (fun _ => o_faddr (s := 50) (i := 3) (off := 3) Tryd.underlying50 rfl Tryd.sizeOf22 rfl rfl rfl) ?_
                  refine wl_s (fun _ hk => (o_loadbg Tryd.isAgg22 rfl (f.u (below_of_grown_none hk)) (by rfl))) ?_
                  refine wl_p (fun _ => o_len (t := 22) Tryd.underlying22 rfl) ?_
                  refine wl_p (fun _ => o_sub rfl rfl (by omega) (by omega)) ?_
                  refine wl_call rfl (C_OwnP _ (f57_1.u hw) rfl (by omega)) ?_ (hq := .inr fun _ _ h => grown_of_below h.choose_spec.choose_spec.2.2 _)
                  rintro v114 w114 ⟨A114, ⟨c114, ⟨rfl, ⟨f114, b114⟩⟩⟩⟩
                  simp only [drew_size] at f114
                  simp only [drew_size] at b114
                  have qf114 := f114.cap
                  have s114 := b114.size
                  simp only [drew_size] at s114
                  replace hw := hw.trans (b114.mono hw.size)
                  replace f69 := f69.u b114
                  replace f69_1 := f69_1.u b114
                  replace f68 := f68.u b114
                  replace f := f.u b114
                  replace f46 := f46.u b114
                  replace f47 := f47.u b114
                  replace fb2 := fb2.u b114
                  refine wl_appZx (500 - List.length L[i].snd.snd.snd) rfl f114 rfl rfl (by omega) (by omega) (by omega) (by omega) ?_
                  rintro A119 c119 w119 f119 g119 b119
                  have qf119 := f119.cap
                  have s119 := g119.size
                  replace hw := hw.trans (b119.mono (by omega))
                  replace fb2 := fb2.k g119.g (f114.ap (by omega))
                  replace f47 := f47.y g119 (by decide)
                  replace f46 := f46.y g119 (by decide)
                  replace f := f.y g119 (by decide)
                  replace f68 := f68.k g119.g (f114.ap (by omega))
                  replace f69_1 := f69_1.k g119.g (f114.ap (by omega))
                  replace f69 := f69.y g119 (by decide)
                  clear f114
                  refine wl_putH rfl rfl f46 rfl rfl (by omega) (by omega) ?_
                  rintro w_2 f_1 g_2 e_1
                  have s_1 := g_2.size
                  replace hw := hw.trans (below_of_grownBy g_2.g hw.size (by omega))
                  replace f69 := f69.m g_2
                  replace f69_1 := f69_1.k g_2.g (ap_some (by omega))
                  replace f68 := f68.k g_2.g (ap_some (by omega))
                  replace f := f.k g_2.g (ap_some (by omega))
                  replace f47 := f47.k g_2.g (ap_some (by omega))
                  replace fb2 := fb2.m g_2
                  replace f119 := f119.k g_2.g (ap_some (by omega))
                  clear f46
                  refine wl_nild ?_
                  refine rk_region ?_
                  refine wl_p (fun _ => o_move rfl) ?_
                  refine wl_p (fun _ => o_move rfl) ?_
                  refine wl_delY rfl rfl f47 rfl (by omega) (by omega) ?_
                  rintro w_3 f_2 g_3 e_2
                  have s_2 := g_3.size
                  replace hw := hw.trans (below_of_grownBy g_3.g hw.size (by omega))
                  replace f119 := f119.k g_3.g (ap_some (by omega))
                  replace fb2 := fb2.m g_3
                  replace f := f.k g_3.g (ap_some (by omega))
                  replace f68 := f68.k g_3.g (ap_some (by omega))
                  replace f69_1 := f69_1.k g_3.g (ap_some (by omega))
                  replace f69 := f69.m g_3
                  replace f_1 := f_1.k g_3.g (ap_some (by omega))
                  clear f47
                  refine wl_nil ?_
                  refine rk_blk ?_
                  have fc := fb2.to_Cv
                  have fd := fc.put_ k0 f119 (by omega)
                  exact rk_tof hj2 (Fr.le_of (by kernel_rfl) (by kernel_rfl) (by repeat' constructor)) ⟨S, _, H.set k0 (some (bodyL L[i].2.2.2)), _, Y.set k0 none, g, ul, uh, rfl, hinv.new hkn hlb, f69_1, f69, f_1, fd, f_2, hb1, hb2, hb3, by omega, hw⟩
              · have hr := newP_full (S := S) (C := C) hlb (by omega : least (usH H) = (usH H).length)
                refine rk_seq ?_
                refine rk_seq ?_
                refine rk_region ?_
                refine wl_p (fun _ => o_eq rfl rfl) ?_
                refine wl_p (fun _ => o_assign rfl) ?_
                refine wl_nil ?_
                refine rk_if rfl (fun h61 => ?_) (fun h61 => h61.elim (by omega))
                refine rk_skip ?_
                refine rk_if rfl (fun h61 => ?_) (fun h61 => h61.elim (by omega))
                refine rk_seq ?_
                refine rk_region ?_
                refine wl_p (fun _ => o_move rfl) ?_
                refine wl_p (fun _ => o_faddr (s := 50) (i := 3) (off := 3) Tryd.underlying50 rfl Tryd.sizeOf22 rfl rfl rfl) ?_
                refine wl_r (o_loadbg Tryd.isAgg22 rfl f (by rfl)) ?_
                refine wl_call rfl (C_OwnP _ (f57_1.u hw) rfl (by omega)) ?_
                rintro v68 w68 ⟨A68, ⟨c68, ⟨rfl, ⟨f68, b68⟩⟩⟩⟩
                have qf68 := f68.cap
                have s68 := b68.size
                replace hw := hw.trans (b68.mono hw.size)
                replace f := f.u b68
                replace f36 := f36.u b68
                replace f41 := f41.u b68
                replace f46 := f46.u b68
                replace fc := fc.u b68
                replace f47 := f47.u b68
                refine wl_call rfl (C_pNew _ (hT.u hw) f41 f36 f68.to_Rd hr rfl (by omega) (by omega) (by omega) (by omega) (by omega)) ?_
                rintro v69 w69 ⟨rfl, ⟨f69, ⟨f69_1, ⟨w169, ⟨g69, ⟨g69_1, ⟨row69, g69_2⟩⟩⟩⟩⟩⟩⟩
                dsimp only at f69
                dsimp only at f69_1
                dsimp only
                have s69 := g69.size
                replace hw := hw.trans (g69.below hw.size (by omega))
                replace f47 := f47.c g69 (by omega)
                replace fc := fc.c g69 (by omega)
                replace f46 := f46.c g69 (by omega)
                replace f41 := f41.c g69 (by omega)
                replace f := f.c g69 (by omega)
                replace f68 := f68.c g69 (by omega)
                clear f36
                have s69g69_1 := g69_1.size
                replace hw := hw.trans (g69_1.below hw.size (by omega))
                replace f68 := f68.c g69_1 (by omega)
                replace f := f.c g69_1 (by omega)
                replace f46 := f46.c g69_1 (by omega)
                replace fc := fc.y g69_2 (by decide)
                replace f47 := f47.y g69_2 (by decide)
                clear f41
                refine wl_p (fun _ => o_move rfl) ?_
                refine wl_p (fun _ => o_ext20 rfl) ?_
                refine wl_p (fun _ => o_ext21 rfl) ?_
                refine wl_p (fun _ => o_assign rfl) ?_
                refine wl_p (fun _ => o_assign rfl) ?_
                refine wl_nil ?_
                refine rk_seq ?_
                refine rk_region ?_
                refine wl_p (fun _ => o_assign rfl) ?_
                refine wl_nil ?_
                refine rk_seq ?_
                refine rk_block ?_
                refine rk_joinf (fun fb fr V => fr = [(15, .int .i64 (k0 : Int))] ++ fb.drop 1 ∧ V = w69) ?_ (fun ks3 hj3 => ?_)
                rotate_left
                · refine rk_loopf (fun fb m fr V => ∃ j : Nat, fr = [(15, .int .i64 (j : Int))] ++ fb.drop 1 ∧ j ≤ k0 ∧ m = k0 - j ∧ V = w69) (n := k0) (Fr.le_of (by kernel_rfl) (by kernel_rfl) (by repeat' constructor)) ⟨0, rfl, by omega, rfl, rfl⟩ ?_
                  rintro m fr V3 ⟨j, rfl, hj, rfl, rfl⟩
                  have wj : (Lit.int .i64 (j : Int)).wf = true := wf_small (by omega) (by omega)
                  first | refine rk_frame (by simp only [List.cons_append, List.nil_append, List.drop_succ_cons, List.drop_zero]; rfl) ?_ | refine wl_frame (by simp only [List.cons_append, List.nil_append, List.drop_succ_cons, List.drop_zero]; rfl) ?_
                  by_cases hjk : j < k0
                  · have hu := hlk j hjk
                    rw [usH_get] at hu
                    rcases fc.get_ (j : Int) with ⟨hg1, hg2⟩ | ⟨b, A2, c2, hg1, hg2, hrd⟩
                    · rw [hg2] at hu; cases hu
                    · have hbl := (hinv.pg j b hg1).1
                      refine rk_seq ?_
                      refine rk_seq ?_
                      refine rk_region ?_
                      refine wl_p (fun _ => o_move rfl) ?_
                      refine wl_p (fun _ => o_move rfl) ?_
                      refine wl_r (o_lookH1 rfl rfl f46 hg2 wj) ?_
                      refine wl_p (fun _ => o_len (t := 22) Tryd.underlying22 rfl) ?_
                      refine wl_p (fun _ => o_gt rfl rfl) ?_
                      refine wl_nil ?_
                      refine rk_if rfl (fun h76 => ?_) (fun h76 => h76.elim (by omega))
                      refine rk_skip ?_
                      refine rk_block ?_
                      refine rk_region ?_
                      refine wl_p (fun _ => o_move rfl) ?_
                      refine wl_p (fun _ => o_add rfl rfl (by omega) (by omega)) ?_
                      refine wl_p (fun _ => o_assign rfl) ?_
                      refine wl_nil ?_
                      refine rk_blk ?_
                      simp only [hbl]
                      exact rk_againf (Fr.le_of (by kernel_rfl) (by kernel_rfl) (by repeat' constructor)) ⟨j + 1, rfl, by omega, rfl, rfl⟩ (by omega)
                  · obtain rfl : j = k0 := by omega
                    rw [usH_get] at hla
                    rcases fc.get_ (j : Int) with ⟨hg1, hg2⟩ | ⟨b, A2, c2, hg1, hg2, hrd⟩
                    · refine rk_seq ?_
                      refine rk_seq ?_
                      refine rk_region ?_
                      refine wl_p (fun _ => o_move rfl) ?_
                      refine wl_p (fun _ => o_move rfl) ?_
                      refine wl_r (o_lookH0 rfl rfl f46 hg1 wj) ?_
                      refine wl_p (fun _ => o_len (t := 22) Tryd.underlying22 rfl) ?_
                      refine wl_p (fun _ => o_gt rfl rfl) ?_
                      refine wl_nil ?_
                      refine rk_false rfl ?_
                      refine rk_exit rfl ?_
                      exact rk_tof hj3 (Fr.le_of (by kernel_rfl) (by kernel_rfl) (by repeat' constructor)) ⟨rfl, rfl⟩
                    · rw [hg1] at hla; cases hla
                rintro fr V3 ⟨rfl, rfl⟩
                first | refine rk_frame (by simp only [List.cons_append, List.nil_append, List.drop_succ_cons, List.drop_zero]; rfl) ?_ | refine wl_frame (by simp only [List.cons_append, List.nil_append, List.drop_succ_cons, List.drop_zero]; rfl) ?_
                refine rk_seq ?_
                refine rk_seq ?_
                refine rk_region ?_
                refine wl_p (fun _ => o_faddr (s := 50) (i := 3) (off := 3) Tryd.underlying50 rfl Tryd.sizeOf22 rfl rfl rfl) ?_
                refine wl_r (o_loadbg Tryd.isAgg22 rfl f (by rfl)) ?_
                refine wl_p (fun _ => o_len (t := 22) Tryd.underlying22 rfl) ?_
                refine wl_p (fun _ => o_gt rfl rfl) ?_
                refine wl_nil ?_
                refine rk_if rfl (fun h82 => absurd h82 (by omega)) (fun h82 => ?_)
                refine rk_skip ?_
                refine rk_seq ?_
                refine rk_seq ?_
                refine rk_region ?_
                refine wl_p (fun _ => o_move rfl) ?_
                refine wl_p (fun _ => o_eq rfl rfl) ?_
                refine wl_p (fun _ => o_move rfl) ?_
                refine wl_p (fun _ => o_move rfl) ?_
                refine wl_p (fun _ => o_lt rfl rfl) ?_
                refine wl_p (fun _ => o_bne (t := 4) Tryd.underlying4 rfl rfl) ?_
                refine wl_p (fun _ => o_move rfl) ?_
                refine wl_know 91 false rfl (by simp; omega) ?_
                refine wl_p (fun _ => o_move rfl) ?_
                refine wl_p (fun _ => o_eq rfl rfl) ?_
                refine wl_p (fun _ => o_move rfl) ?_
                refine wl_off ?_
                refine wl_off ?_
                refine wl_off ?_
                refine wl_p (fun _ => o_pick_f rfl rfl) ?_
                refine wl_p (fun _ => o_pick_f rfl rfl) ?_
                refine wl_p (fun _ => o_move rfl) ?_
                refine wl_p (fun _ => o_move rfl) ?_
                refine wl_p (fun _ => o_ne rfl rfl) ?_
                refine wl_p (fun _ => o_move rfl) ?_
                refine wl_p (fun _ => o_move rfl) ?_
                refine wl_p (fun _ => o_ne rfl rfl) ?_
                refine wl_p (fun _ => o_pick_t rfl rfl) ?_
                refine wl_p (fun _ => o_pick_f rfl rfl) ?_
                refine wl_nil ?_
                refine rk_false rfl ?_
                refine rk_skip ?_
                refine rk_seq ?_
                refine rk_region ?_
                refine wl_p (fun _ => o_move rfl) ?_
                refine wl_p (fun _ => o_eq rfl rfl) ?_
                refine wl_nil ?_
                refine rk_false rfl ?_
                refine rk_skip ?_
                refine rk_blk ?_
                exact rk_tof hj2 (Fr.le_of (by kernel_rfl) (by kernel_rfl) (by repeat' constructor)) ⟨S, C, H, CV, Y, g, ul, uh, rfl, hinv, by assumption, by assumption, f46, fc, f47, hb1, hb2, hb3, by omega, hw⟩
            · by_cases hkn : k0 < n
              · have hr := newP_ok (S := S) (C := C) hlb hk0 (by omega)
                rw [usH_put H k0 (bodyL L[i].2.2.2)] at hr
                refine rk_seq ?_
                refine rk_seq ?_
                refine rk_region ?_
                refine wl_p (fun _ => o_eq rfl rfl) ?_
                refine wl_p (fun _ => o_assign rfl) ?_
                refine wl_nil ?_
                refine rk_if rfl (fun h61 => absurd h61 (by omega)) (fun h61 => ?_)
                refine rk_region ?_
                refine wl_p (fun _ => o_eq rfl rfl) ?_
                refine wl_p (fun _ => o_assign rfl) ?_
                refine wl_nil ?_
                refine rk_if rfl (fun h61 => ?_) (fun h61 => h61.elim (by omega))
                refine rk_seq ?_
                refine rk_region ?_
                refine wl_p (fun _ => o_move rfl) ?_
                refine wl_p (fun _ => o_faddr (s := 50) (i := 3) (off := 3) Tryd.underlying50 rfl Tryd.sizeOf22 rfl rfl rfl) ?_
                refine wl_r (o_loadbg Tryd.isAgg22 rfl f (by rfl)) ?_
                refine wl_call rfl (C_OwnP _ (f57_1.u hw) rfl (by omega)) ?_
                rintro v68 w68 ⟨A68, ⟨c68, ⟨rfl, ⟨f68, b68⟩⟩⟩⟩
                have qf68 := f68.cap
                have s68 := b68.size
                replace hw := hw.trans (b68.mono hw.size)
                replace f := f.u b68
                replace f36 := f36.u b68
                replace f41 := f41.u b68
                replace f46 := f46.u b68
                replace fc := fc.u b68
                replace f47 := f47.u b68
                refine wl_call rfl (C_pNew _ (hT.u hw) f41 f36 f68.to_Rd hr rfl (by omega) (by omega) (by omega) (by omega) (by omega)) ?_
                rintro v69 w69 ⟨rfl, ⟨f69, ⟨f69_1, ⟨w169, ⟨g69, ⟨g69_1, ⟨row69, g69_2⟩⟩⟩⟩⟩⟩⟩
                dsimp only at f69
                dsimp only at f69_1
                dsimp only
                have s69 := g69.size
                replace hw := hw.trans (g69.below hw.size (by omega))
                replace f47 := f47.c g69 (by omega)
                replace fc := fc.c g69 (by omega)
                replace f46 := f46.c g69 (by omega)
                replace f41 := f41.c g69 (by omega)
                replace f := f.c g69 (by omega)
                replace f68 := f68.c g69 (by omega)
                clear f36
                have s69g69_1 := g69_1.size
                replace hw := hw.trans (g69_1.below hw.size (by omega))
                replace f68 := f68.c g69_1 (by omega)
                replace f := f.c g69_1 (by omega)
                replace f46 := f46.c g69_1 (by omega)
                replace fc := fc.y g69_2 (by decide)
                replace f47 := f47.y g69_2 (by decide)
                clear f41
                refine wl_p (fun _ => o_move rfl) ?_
                refine wl_p (fun _ => o_ext20 rfl) ?_
                refine wl_p (fun _ => o_ext21 rfl) ?_
                refine wl_p (fun _ => o_assign rfl) ?_
                refine wl_p (fun _ => o_assign rfl) ?_
                refine wl_nil ?_
                refine rk_seq ?_
                refine rk_region ?_
                refine wl_p (fun _ => o_assign rfl) ?_
                refine wl_nil ?_
                refine rk_seq ?_
                refine rk_block ?_
                refine rk_joinf (fun fb fr V => fr = [(15, .int .i64 (k0 : Int))] ++ fb.drop 1 ∧ V = w69) ?_ (fun ks3 hj3 => ?_)
                rotate_left
                · refine rk_loopf (fun fb m fr V => ∃ j : Nat, fr = [(15, .int .i64 (j : Int))] ++ fb.drop 1 ∧ j ≤ k0 ∧ m = k0 - j ∧ V = w69) (n := k0) (Fr.le_of (by kernel_rfl) (by kernel_rfl) (by repeat' constructor)) ⟨0, rfl, by omega, rfl, rfl⟩ ?_
                  rintro m fr V3 ⟨j, rfl, hj, rfl, rfl⟩
                  have wj : (Lit.int .i64 (j : Int)).wf = true := wf_small (by omega) (by omega)
                  first | refine rk_frame (by simp only [List.cons_append, List.nil_append, List.drop_succ_cons, List.drop_zero]; rfl) ?_ | refine wl_frame (by simp only [List.cons_append, List.nil_append, List.drop_succ_cons, List.drop_zero]; rfl) ?_
                  by_cases hjk : j < k0
                  · have hu := hlk j hjk
                    rw [usH_get] at hu
                    rcases fc.get_ (j : Int) with ⟨hg1, hg2⟩ | ⟨b, A2, c2, hg1, hg2, hrd⟩
                    · rw [hg2] at hu; cases hu
                    · have hbl := (hinv.pg j b hg1).1
                      refine rk_seq ?_
                      refine rk_seq ?_
                      refine rk_region ?_
                      refine wl_p (fun _ => o_move rfl) ?_
                      refine wl_p (fun _ => o_move rfl) ?_
                      refine wl_r (o_lookH1 rfl rfl f46 hg2 wj) ?_
                      refine wl_p (fun _ => o_len (t := 22) Tryd.underlying22 rfl) ?_
                      refine wl_p (fun _ => o_gt rfl rfl) ?_
                      refine wl_nil ?_
                      refine rk_if rfl (fun h76 => ?_) (fun h76 => h76.elim (by omega))
                      refine rk_skip ?_
                      refine rk_block ?_
                      refine rk_region ?_
                      refine wl_p (fun _ => o_move rfl) ?_
                      refine wl_p (fun _ => o_add rfl rfl (by omega) (by omega)) ?_
                      refine wl_p (fun _ => o_assign rfl) ?_
                      refine wl_nil ?_
                      refine rk_blk ?_
                      simp only [hbl]
                      exact rk_againf (Fr.le_of (by kernel_rfl) (by kernel_rfl) (by repeat' constructor)) ⟨j + 1, rfl, by omega, rfl, rfl⟩ (by omega)
                  · obtain rfl : j = k0 := by omega
                    rw [usH_get] at hla
                    rcases fc.get_ (j : Int) with ⟨hg1, hg2⟩ | ⟨b, A2, c2, hg1, hg2, hrd⟩
                    · refine rk_seq ?_
                      refine rk_seq ?_
                      refine rk_region ?_
                      refine wl_p (fun _ => o_move rfl) ?_
                      refine wl_p (fun _ => o_move rfl) ?_
                      refine wl_r (o_lookH0 rfl rfl f46 hg1 wj) ?_
                      refine wl_p (fun _ => o_len (t := 22) Tryd.underlying22 rfl) ?_
                      refine wl_p (fun _ => o_gt rfl rfl) ?_
                      refine wl_nil ?_
                      refine rk_false rfl ?_
                      refine rk_exit rfl ?_
                      exact rk_tof hj3 (Fr.le_of (by kernel_rfl) (by kernel_rfl) (by repeat' constructor)) ⟨rfl, rfl⟩
                    · rw [hg1] at hla; cases hla
                rintro fr V3 ⟨rfl, rfl⟩
                first | refine rk_frame (by simp only [List.cons_append, List.nil_append, List.drop_succ_cons, List.drop_zero]; rfl) ?_ | refine wl_frame (by simp only [List.cons_append, List.nil_append, List.drop_succ_cons, List.drop_zero]; rfl) ?_
                obtain ⟨m0, hm0⟩ : ∃ m, 500 - L[i].2.2.2.length = m := ⟨_, rfl⟩
                have hm2 : 500 - (L[i].2.2.2.length : Int) = (m0 : Int) := by omega
                by_cases h5 : L[i].2.2.2.length = 500
                · refine rk_seq ?_
                  refine rk_seq ?_
                  refine rk_region ?_
                  refine wl_p (fun _ => o_faddr (s := 50) (i := 3) (off := 3) Tryd.underlying50 rfl Tryd.sizeOf22 rfl rfl rfl) ?_
                  refine wl_r (o_loadbg Tryd.isAgg22 rfl f (by rfl)) ?_
                  refine wl_p (fun _ => o_len (t := 22) Tryd.underlying22 rfl) ?_
                  refine wl_p (fun _ => o_gt rfl rfl) ?_
                  refine wl_nil ?_
                  refine rk_if rfl (fun h82 => absurd h82 (by omega)) (fun h82 => ?_)
                  refine rk_skip ?_
                  refine rk_seq ?_
                  refine rk_seq ?_
                  refine rk_region ?_
                  refine wl_p (fun _ => o_move rfl) ?_
                  refine wl_p (fun _ => o_eq rfl rfl) ?_
                  refine wl_p (fun _ => o_move rfl) ?_
                  refine wl_p (fun _ => o_move rfl) ?_
                  refine wl_p (fun _ => o_lt rfl rfl) ?_
                  refine wl_p (fun _ => o_bne (t := 4) Tryd.underlying4 rfl rfl) ?_
                  refine wl_p (fun _ => o_move rfl) ?_
                  refine wl_know 91 false rfl (by simp; omega) ?_
                  refine wl_p (fun _ => o_move rfl) ?_
                  refine wl_p (fun _ => o_eq rfl rfl) ?_
                  refine wl_p (fun _ => o_move rfl) ?_
                  refine wl_p (fun _ => o_move rfl) ?_
                  refine wl_p (fun _ => o_move rfl) ?_
                  refine wl_p (fun _ => o_ne rfl rfl) ?_
                  refine wl_p (fun _ => o_pick_t rfl rfl) ?_
                  refine wl_p (fun _ => o_pick_f rfl rfl) ?_
                  refine wl_p (fun _ => o_move rfl) ?_
                  refine wl_know 100 false rfl (decide_eq_false (by omega)) ?_
                  refine wl_p (fun _ => o_move rfl) ?_
                  refine wl_p (fun _ => o_ne rfl rfl) ?_
                  refine wl_p (fun _ => o_move rfl) ?_
                  refine wl_off ?_
                  refine wl_off ?_
                  refine wl_p (fun _ => o_pick_f rfl rfl) ?_
                  refine wl_p (fun _ => o_pick_f rfl rfl) ?_
                  refine wl_nil ?_
                  refine rk_false rfl ?_
                  refine rk_skip ?_
                  refine rk_seq ?_
                  refine rk_region ?_
                  refine wl_p (fun _ => o_move rfl) ?_
                  refine wl_p (fun _ => o_eq rfl rfl) ?_
                  refine wl_nil ?_
                  refine rk_true rfl ?_
                  refine rk_seq ?_
                  refine rk_drawo (id := 28) (none) [0, 0, 0, 4, 8, 0, 32, 64, 128, 272, 1023] [0, 0, 0, 4, 12, 0, 32, 96, 224, 508, 1023] 1552 16 [0, 1, 2, 3, 5, 6, 7, 8, 4, 9, 10] [(.p, 0), (.p, 1), (.p, 2), (.r, 3), (.p, 5), (.s, 6), (.p, 7), (.p, 8), (.c, 4), (.l, 9), (.l, 10)] (by kernel_rfl) (by kernel_rfl) (by kernel_rfl) (by kernel_rfl) (by kernel_rfl) ?_
                  dsimp only [inOrder, nthOp]
                  replace hw := hw.drew
                  replace f47 := f47.d
                  replace fc := fc.d
                  replace f46 := f46.d
                  replace f := f.d
                  replace f68 := f68.d
                  replace f69_1 := f69_1.d
                  replace f69 := f69.d
                  refine wl_p (fun _ => o_move rfl) ?_
                  refine wl_p (fun _ => o_move rfl) ?_
                  refine wl_p (fun _ => o_faddr (s := 50) (i := 3) (off := 3) Tryd.underlying50 rfl Tryd.sizeOf22 rfl rfl rfl) ?_
                  refine wl_r (o_loadbg Tryd.isAgg22 rfl f (by rfl)) ?_
                  refine wl_p (fun _ => o_faddr (s := 50) (i := 3) (off := 3) Tryd.underlying50 rfl Tryd.sizeOf22 rfl rfl rfl) ?_
                  refine wl_s (fun _ hk => (o_loadbg Tryd.isAgg22 rfl (f.u (below_of_grown_none hk)) (by rfl))) ?_
                  refine wl_p (fun _ => o_len (t := 22) Tryd.underlying22 rfl) ?_
                  refine wl_p (fun _ => o_sub rfl rfl (by omega) (by omega)) ?_
                  refine wl_call rfl (C_OwnP _ (f57_1.u hw) rfl (by omega)) ?_ (hq := .inr fun _ _ h => grown_of_below h.choose_spec.choose_spec.2.2 _)
                  rintro v114 w114 ⟨A114, ⟨c114, ⟨rfl, ⟨f114, b114⟩⟩⟩⟩
                  simp only [drew_size] at f114
                  simp only [drew_size] at b114
                  have qf114 := f114.cap
                  have s114 := b114.size
                  simp only [drew_size] at s114
                  replace hw := hw.trans (b114.mono hw.size)
                  replace f69 := f69.u b114
                  replace f69_1 := f69_1.u b114
                  replace f68 := f68.u b114
                  replace f := f.u b114
                  replace f46 := f46.u b114
                  replace fc := fc.u b114
                  replace f47 := f47.u b114
                  refine wl_appZ00 rfl f114 rfl rfl (by omega) ?_
                  refine wl_putH rfl rfl f46 rfl rfl (by omega) (by omega) ?_
                  rintro w_2 f_1 g_2 e_1
                  have s_1 := g_2.size
                  replace hw := hw.trans (below_of_grownBy g_2.g hw.size (by omega))
                  replace f47 := f47.k g_2.g (ap_some (by omega))
                  replace fc := fc.m g_2
                  replace f := f.k g_2.g (ap_some (by omega))
                  replace f68 := f68.k g_2.g (ap_some (by omega))
                  replace f69_1 := f69_1.k g_2.g (ap_some (by omega))
                  replace f69 := f69.m g_2
                  replace f114 := f114.k g_2.g (ap_some (by omega))
                  clear f46
                  refine wl_nild ?_
                  refine rk_region ?_
                  refine wl_p (fun _ => o_move rfl) ?_
                  refine wl_p (fun _ => o_move rfl) ?_
                  refine wl_delY rfl rfl f47 rfl (by omega) (by omega) ?_
                  rintro w_3 f_2 g_3 e_2
                  have s_2 := g_3.size
                  replace hw := hw.trans (below_of_grownBy g_3.g hw.size (by omega))
                  replace f114 := f114.k g_3.g (ap_some (by omega))
                  replace f69 := f69.m g_3
                  replace f69_1 := f69_1.k g_3.g (ap_some (by omega))
                  replace f68 := f68.k g_3.g (ap_some (by omega))
                  replace f := f.k g_3.g (ap_some (by omega))
                  replace fc := fc.m g_3
                  replace f_1 := f_1.k g_3.g (ap_some (by omega))
                  clear f47
                  refine wl_nil ?_
                  refine rk_blk ?_
                  have eb := bodyL_full h5
                  have fd := fc.put_ k0 f114 (by omega)
                  rw [← eb] at fd
                  rw [congrArg List.length eb] at fd
                  exact rk_tof hj2 (Fr.le_of (by kernel_rfl) (by kernel_rfl) (by repeat' constructor)) ⟨S, _, H.set k0 (some (bodyL L[i].2.2.2)), _, Y.set k0 none, g, ul, uh, rfl, hinv.new hkn hlb, f69_1, f69, f_1, fd, f_2, hb1, hb2, hb3, by omega, hw⟩
                · have fb2 := fc.to_B (hi := V3.heap.size) (Nat.le_refl _)
                  clear fc
                  refine rk_seq ?_
                  refine rk_seq ?_
                  refine rk_region ?_
                  refine wl_p (fun _ => o_faddr (s := 50) (i := 3) (off := 3) Tryd.underlying50 rfl Tryd.sizeOf22 rfl rfl rfl) ?_
                  refine wl_r (o_loadbg Tryd.isAgg22 rfl f (by rfl)) ?_
                  refine wl_p (fun _ => o_len (t := 22) Tryd.underlying22 rfl) ?_
                  refine wl_p (fun _ => o_gt rfl rfl) ?_
                  refine wl_nil ?_
                  refine rk_if rfl (fun h82 => absurd h82 (by omega)) (fun h82 => ?_)
                  refine rk_skip ?_
                  refine rk_seq ?_
                  refine rk_seq ?_
                  refine rk_region ?_
                  refine wl_p (fun _ => o_move rfl) ?_
                  refine wl_p (fun _ => o_eq rfl rfl) ?_
                  refine wl_p (fun _ => o_move rfl) ?_
                  refine wl_p (fun _ => o_move rfl) ?_
                  refine wl_p (fun _ => o_lt rfl rfl) ?_
                  refine wl_p (fun _ => o_bne (t := 4) Tryd.underlying4 rfl rfl) ?_
                  refine wl_p (fun _ => o_move rfl) ?_
                  refine wl_know 91 false rfl (by simp; omega) ?_
                  refine wl_p (fun _ => o_move rfl) ?_
                  refine wl_p (fun _ => o_eq rfl rfl) ?_
                  refine wl_p (fun _ => o_move rfl) ?_
                  refine wl_p (fun _ => o_move rfl) ?_
                  refine wl_p (fun _ => o_move rfl) ?_
                  refine wl_p (fun _ => o_ne rfl rfl) ?_
                  refine wl_p (fun _ => o_pick_t rfl rfl) ?_
                  refine wl_p (fun _ => o_pick_f rfl rfl) ?_
                  refine wl_p (fun _ => o_move rfl) ?_
                  refine wl_know 100 false rfl (decide_eq_false (by omega)) ?_
                  refine wl_p (fun _ => o_move rfl) ?_
                  refine wl_p (fun _ => o_ne rfl rfl) ?_
                  refine wl_p (fun _ => o_move rfl) ?_
                  refine wl_off ?_
                  refine wl_off ?_
                  refine wl_p (fun _ => o_pick_f rfl rfl) ?_
                  refine wl_p (fun _ => o_pick_f rfl rfl) ?_
                  refine wl_nil ?_
                  refine rk_false rfl ?_
                  refine rk_skip ?_
                  refine rk_seq ?_
                  refine rk_region ?_
                  refine wl_p (fun _ => o_move rfl) ?_
                  refine wl_p (fun _ => o_eq rfl rfl) ?_
                  refine wl_nil ?_
                  refine rk_true rfl ?_
                  refine rk_seq ?_
                  refine rk_drawo (id := 28) (none) [0, 0, 0, 4, 8, 0, 32, 64, 128, 272, 1023] [0, 0, 0, 4, 12, 0, 32, 96, 224, 508, 1023] 1552 16 [0, 1, 2, 3, 5, 6, 7, 8, 4, 9, 10] [(.p, 0), (.p, 1), (.p, 2), (.r, 3), (.p, 5), (.s, 6), (.p, 7), (.p, 8), (.c, 4), (.l, 9), (.l, 10)] (by kernel_rfl) (by kernel_rfl) (by kernel_rfl) (by kernel_rfl) (by kernel_rfl) ?_
                  dsimp only [inOrder, nthOp]
                  replace hw := hw.drew
                  replace fb2 := fb2.d
                  replace f47 := f47.d
                  replace f46 := f46.d
                  replace f := f.d
                  replace f68 := f68.d
                  replace f69_1 := f69_1.d
                  replace f69 := f69.d
                  refine wl_p (fun _ => o_move rfl) ?_
                  refine wl_p (fun _ => o_move rfl) ?_
                  refine wl_p (fun _ => o_faddr (s := 50) (i := 3) (off := 3) Tryd.underlying50 rfl Tryd.sizeOf22 rfl rfl rfl) ?_
                  refine wl_r (o_loadbg Tryd.isAgg22 rfl f (by rfl)) ?_
                  refine wl_p (fun _ => o_faddr (s := 50) (i := 3) (off := 3) Tryd.underlying50 rfl Tryd.sizeOf22 rfl rfl rfl) ?_
                  refine wl_s (fun _ hk => (o_loadbg Tryd.isAgg22 rfl (f.u (below_of_grown_none hk)) (by rfl))) ?_
                  refine wl_p (fun _ => o_len (t := 22) Tryd.underlying22 rfl) ?_
                  refine wl_p (fun _ => o_sub rfl rfl (by omega) (by omega)) ?_
                  refine wl_call rfl (C_OwnP _ (f57_1.u hw) rfl (by omega)) ?_ (hq := .inr fun _ _ h => grown_of_below h.choose_spec.choose_spec.2.2 _)
                  rintro v114 w114 ⟨A114, ⟨c114, ⟨rfl, ⟨f114, b114⟩⟩⟩⟩
                  simp only [drew_size] at f114
                  simp only [drew_size] at b114
                  have qf114 := f114.cap
                  have s114 := b114.size
                  simp only [drew_size] at s114
                  replace hw := hw.trans (b114.mono hw.size)
                  replace f69 := f69.u b114
                  replace f69_1 := f69_1.u b114
                  replace f68 := f68.u b114
                  replace f := f.u b114
                  replace f46 := f46.u b114
                  replace f47 := f47.u b114
                  replace fb2 := fb2.u b114
                  refine wl_appZx (500 - List.length L[i].snd.snd.snd) rfl f114 rfl rfl (by omega) (by omega) (by omega) (by omega) ?_
                  rintro A119 c119 w119 f119 g119 b119
                  have qf119 := f119.cap
                  have s119 := g119.size
                  replace hw := hw.trans (b119.mono (by omega))
                  replace fb2 := fb2.k g119.g (f114.ap (by omega))
                  replace f47 := f47.y g119 (by decide)
                  replace f46 := f46.y g119 (by decide)
                  replace f := f.y g119 (by decide)
                  replace f68 := f68.k g119.g (f114.ap (by omega))
                  replace f69_1 := f69_1.k g119.g (f114.ap (by omega))
                  replace f69 := f69.y g119 (by decide)
                  clear f114
                  refine wl_putH rfl rfl f46 rfl rfl (by omega) (by omega) ?_
                  rintro w_2 f_1 g_2 e_1
                  have s_1 := g_2.size
                  replace hw := hw.trans (below_of_grownBy g_2.g hw.size (by omega))
                  replace f69 := f69.m g_2
                  replace f69_1 := f69_1.k g_2.g (ap_some (by omega))
                  replace f68 := f68.k g_2.g (ap_some (by omega))
                  replace f := f.k g_2.g (ap_some (by omega))
                  replace f47 := f47.k g_2.g (ap_some (by omega))
                  replace fb2 := fb2.m g_2
                  replace f119 := f119.k g_2.g (ap_some (by omega))
                  clear f46
                  refine wl_nild ?_
                  refine rk_region ?_
                  refine wl_p (fun _ => o_move rfl) ?_
                  refine wl_p (fun _ => o_move rfl) ?_
                  refine wl_delY rfl rfl f47 rfl (by omega) (by omega) ?_
                  rintro w_3 f_2 g_3 e_2
                  have s_2 := g_3.size
                  replace hw := hw.trans (below_of_grownBy g_3.g hw.size (by omega))
                  replace f119 := f119.k g_3.g (ap_some (by omega))
                  replace fb2 := fb2.m g_3
                  replace f := f.k g_3.g (ap_some (by omega))
                  replace f68 := f68.k g_3.g (ap_some (by omega))
                  replace f69_1 := f69_1.k g_3.g (ap_some (by omega))
                  replace f69 := f69.m g_3
                  replace f_1 := f_1.k g_3.g (ap_some (by omega))
                  clear f47
                  refine wl_nil ?_
                  refine rk_blk ?_
                  have fc := fb2.to_Cv
                  have fd := fc.put_ k0 f119 (by omega)
                  exact rk_tof hj2 (Fr.le_of (by kernel_rfl) (by kernel_rfl) (by repeat' constructor)) ⟨S, _, H.set k0 (some (bodyL L[i].2.2.2)), _, Y.set k0 none, g, ul, uh, rfl, hinv.new hkn hlb, f69_1, f69, f_1, fd, f_2, hb1, hb2, hb3, by omega, hw⟩
              · have hr := newP_full (S := S) (C := C) hlb (by omega : least (usH H) = (usH H).length)
                refine rk_seq ?_
                refine rk_seq ?_
                refine rk_region ?_
                refine wl_p (fun _ => o_eq rfl rfl) ?_
                refine wl_p (fun _ => o_assign rfl) ?_
                refine wl_nil ?_
                refine rk_if rfl (fun h61 => absurd h61 (by omega)) (fun h61 => ?_)
                refine rk_region ?_
                refine wl_p (fun _ => o_eq rfl rfl) ?_
                refine wl_p (fun _ => o_assign rfl) ?_
                refine wl_nil ?_
                refine rk_if rfl (fun h61 => ?_) (fun h61 => h61.elim (by omega))
                refine rk_seq ?_
                refine rk_region ?_
                refine wl_p (fun _ => o_move rfl) ?_
                refine wl_p (fun _ => o_faddr (s := 50) (i := 3) (off := 3) Tryd.underlying50 rfl Tryd.sizeOf22 rfl rfl rfl) ?_
                refine wl_r (o_loadbg Tryd.isAgg22 rfl f (by rfl)) ?_
                refine wl_call rfl (C_OwnP _ (f57_1.u hw) rfl (by omega)) ?_
                rintro v68 w68 ⟨A68, ⟨c68, ⟨rfl, ⟨f68, b68⟩⟩⟩⟩
                have qf68 := f68.cap
                have s68 := b68.size
                replace hw := hw.trans (b68.mono hw.size)
                replace f := f.u b68
                replace f36 := f36.u b68
                replace f41 := f41.u b68
                replace f46 := f46.u b68
                replace fc := fc.u b68
                replace f47 := f47.u b68
                refine wl_call rfl (C_pNew _ (hT.u hw) f41 f36 f68.to_Rd hr rfl (by omega) (by omega) (by omega) (by omega) (by omega)) ?_
                rintro v69 w69 ⟨rfl, ⟨f69, ⟨f69_1, ⟨w169, ⟨g69, ⟨g69_1, ⟨row69, g69_2⟩⟩⟩⟩⟩⟩⟩
                dsimp only at f69
                dsimp only at f69_1
                dsimp only
                have s69 := g69.size
                replace hw := hw.trans (g69.below hw.size (by omega))
                replace f47 := f47.c g69 (by omega)
                replace fc := fc.c g69 (by omega)
                replace f46 := f46.c g69 (by omega)
                replace f41 := f41.c g69 (by omega)
                replace f := f.c g69 (by omega)
                replace f68 := f68.c g69 (by omega)
                clear f36
                have s69g69_1 := g69_1.size
                replace hw := hw.trans (g69_1.below hw.size (by omega))
                replace f68 := f68.c g69_1 (by omega)
                replace f := f.c g69_1 (by omega)
                replace f46 := f46.c g69_1 (by omega)
                replace fc := fc.y g69_2 (by decide)
                replace f47 := f47.y g69_2 (by decide)
                clear f41
                refine wl_p (fun _ => o_move rfl) ?_
                refine wl_p (fun _ => o_ext20 rfl) ?_
                refine wl_p (fun _ => o_ext21 rfl) ?_
                refine wl_p (fun _ => o_assign rfl) ?_
                refine wl_p (fun _ => o_assign rfl) ?_
                refine wl_nil ?_
                refine rk_seq ?_
                refine rk_region ?_
                refine wl_p (fun _ => o_assign rfl) ?_
                refine wl_nil ?_
                refine rk_seq ?_
                refine rk_block ?_
                refine rk_joinf (fun fb fr V => fr = [(15, .int .i64 (k0 : Int))] ++ fb.drop 1 ∧ V = w69) ?_ (fun ks3 hj3 => ?_)
                rotate_left
                · refine rk_loopf (fun fb m fr V => ∃ j : Nat, fr = [(15, .int .i64 (j : Int))] ++ fb.drop 1 ∧ j ≤ k0 ∧ m = k0 - j ∧ V = w69) (n := k0) (Fr.le_of (by kernel_rfl) (by kernel_rfl) (by repeat' constructor)) ⟨0, rfl, by omega, rfl, rfl⟩ ?_
                  rintro m fr V3 ⟨j, rfl, hj, rfl, rfl⟩
                  have wj : (Lit.int .i64 (j : Int)).wf = true := wf_small (by omega) (by omega)
                  first | refine rk_frame (by simp only [List.cons_append, List.nil_append, List.drop_succ_cons, List.drop_zero]; rfl) ?_ | refine wl_frame (by simp only [List.cons_append, List.nil_append, List.drop_succ_cons, List.drop_zero]; rfl) ?_
                  by_cases hjk : j < k0
                  · have hu := hlk j hjk
                    rw [usH_get] at hu
                    rcases fc.get_ (j : Int) with ⟨hg1, hg2⟩ | ⟨b, A2, c2, hg1, hg2, hrd⟩
                    · rw [hg2] at hu; cases hu
                    · have hbl := (hinv.pg j b hg1).1
                      refine rk_seq ?_
                      refine rk_seq ?_
                      refine rk_region ?_
                      refine wl_p (fun _ => o_move rfl) ?_
                      refine wl_p (fun _ => o_move rfl) ?_
                      refine wl_r (o_lookH1 rfl rfl f46 hg2 wj) ?_
                      refine wl_p (fun _ => o_len (t := 22) Tryd.underlying22 rfl) ?_
                      refine wl_p (fun _ => o_gt rfl rfl) ?_
                      refine wl_nil ?_
                      refine rk_if rfl (fun h76 => ?_) (fun h76 => h76.elim (by omega))
                      refine rk_skip ?_
                      refine rk_block ?_
                      refine rk_region ?_
                      refine wl_p (fun _ => o_move rfl) ?_
                      refine wl_p (fun _ => o_add rfl rfl (by omega) (by omega)) ?_
                      refine wl_p (fun _ => o_assign rfl) ?_
                      refine wl_nil ?_
                      refine rk_blk ?_
                      simp only [hbl]
                      exact rk_againf (Fr.le_of (by kernel_rfl) (by kernel_rfl) (by repeat' constructor)) ⟨j + 1, rfl, by omega, rfl, rfl⟩ (by omega)
                  · obtain rfl : j = k0 := by omega
                    rw [usH_get] at hla
                    rcases fc.get_ (j : Int) with ⟨hg1, hg2⟩ | ⟨b, A2, c2, hg1, hg2, hrd⟩
                    · refine rk_seq ?_
                      refine rk_seq ?_
                      refine rk_region ?_
                      refine wl_p (fun _ => o_move rfl) ?_
                      refine wl_p (fun _ => o_move rfl) ?_
                      refine wl_r (o_lookH0 rfl rfl f46 hg1 wj) ?_
                      refine wl_p (fun _ => o_len (t := 22) Tryd.underlying22 rfl) ?_
                      refine wl_p (fun _ => o_gt rfl rfl) ?_
                      refine wl_nil ?_
                      refine rk_false rfl ?_
                      refine rk_exit rfl ?_
                      exact rk_tof hj3 (Fr.le_of (by kernel_rfl) (by kernel_rfl) (by repeat' constructor)) ⟨rfl, rfl⟩
                    · rw [hg1] at hla; cases hla
                rintro fr V3 ⟨rfl, rfl⟩
                first | refine rk_frame (by simp only [List.cons_append, List.nil_append, List.drop_succ_cons, List.drop_zero]; rfl) ?_ | refine wl_frame (by simp only [List.cons_append, List.nil_append, List.drop_succ_cons, List.drop_zero]; rfl) ?_
                refine rk_seq ?_
                refine rk_seq ?_
                refine rk_region ?_
                refine wl_p (fun _ => o_faddr (s := 50) (i := 3) (off := 3) Tryd.underlying50 rfl Tryd.sizeOf22 rfl rfl rfl) ?_
                refine wl_r (o_loadbg Tryd.isAgg22 rfl f (by rfl)) ?_
                refine wl_p (fun _ => o_len (t := 22) Tryd.underlying22 rfl) ?_
                refine wl_p (fun _ => o_gt rfl rfl) ?_
                refine wl_nil ?_
                refine rk_if rfl (fun h82 => absurd h82 (by omega)) (fun h82 => ?_)
                refine rk_skip ?_
                refine rk_seq ?_
                refine rk_seq ?_
                refine rk_region ?_
                refine wl_p (fun _ => o_move rfl) ?_
                refine wl_p (fun _ => o_eq rfl rfl) ?_
                refine wl_p (fun _ => o_move rfl) ?_
                refine wl_p (fun _ => o_move rfl) ?_
                refine wl_p (fun _ => o_lt rfl rfl) ?_
                refine wl_p (fun _ => o_bne (t := 4) Tryd.underlying4 rfl rfl) ?_
                refine wl_p (fun _ => o_move rfl) ?_
                refine wl_know 91 false rfl (by simp; omega) ?_
                refine wl_p (fun _ => o_move rfl) ?_
                refine wl_p (fun _ => o_eq rfl rfl) ?_
                refine wl_p (fun _ => o_move rfl) ?_
                refine wl_off ?_
                refine wl_off ?_
                refine wl_off ?_
                refine wl_p (fun _ => o_pick_f rfl rfl) ?_
                refine wl_p (fun _ => o_pick_f rfl rfl) ?_
                refine wl_p (fun _ => o_move rfl) ?_
                refine wl_p (fun _ => o_move rfl) ?_
                refine wl_p (fun _ => o_ne rfl rfl) ?_
                refine wl_p (fun _ => o_move rfl) ?_
                refine wl_p (fun _ => o_move rfl) ?_
                refine wl_p (fun _ => o_ne rfl rfl) ?_
                refine wl_p (fun _ => o_pick_t rfl rfl) ?_
                refine wl_p (fun _ => o_pick_f rfl rfl) ?_
                refine wl_nil ?_
                refine rk_false rfl ?_
                refine rk_skip ?_
                refine rk_seq ?_
                refine rk_region ?_
                refine wl_p (fun _ => o_move rfl) ?_
                refine wl_p (fun _ => o_eq rfl rfl) ?_
                refine wl_nil ?_
                refine rk_false rfl ?_
                refine rk_skip ?_
                refine rk_blk ?_
                exact rk_tof hj2 (Fr.le_of (by kernel_rfl) (by kernel_rfl) (by repeat' constructor)) ⟨S, C, H, CV, Y, g, ul, uh, rfl, hinv, by assumption, by assumption, f46, fc, f47, hb1, hb2, hb3, by omega, hw⟩
          · refine rk_seq ?_
            refine rk_seq ?_
            refine rk_region ?_
            refine wl_p (fun _ => o_eq rfl rfl) ?_
            refine wl_p (fun _ => o_assign rfl) ?_
            refine wl_nil ?_
            refine rk_if rfl (fun h61 => absurd h61 (by omega)) (fun h61 => ?_)
            refine rk_region ?_
            refine wl_p (fun _ => o_eq rfl rfl) ?_
            refine wl_p (fun _ => o_assign rfl) ?_
            refine wl_nil ?_
            refine rk_if rfl (fun h61 => absurd h61 (by omega)) (fun h61 => ?_)
            refine rk_seq ?_
            refine rk_region ?_
            refine wl_p (fun _ => o_eq rfl rfl) ?_
            refine wl_p (fun _ => o_assign rfl) ?_
            refine wl_nil ?_
            refine rk_if rfl (fun h122 => absurd h122 (by omega)) (fun h122 => ?_)
            refine rk_seq ?_
            refine rk_region ?_
            refine wl_p (fun _ => o_eq rfl rfl) ?_
            refine wl_p (fun _ => o_assign rfl) ?_
            refine wl_nil ?_
            refine rk_if rfl (fun h140 => absurd h140 (by omega)) (fun h140 => ?_)
            refine rk_seq ?_
            refine rk_region ?_
            refine wl_p (fun _ => o_eq rfl rfl) ?_
            refine wl_p (fun _ => o_assign rfl) ?_
            refine wl_nil ?_
            refine rk_if rfl (fun h153 => absurd h153 (by omega)) (fun h153 => ?_)
            refine rk_skip ?_
            refine rk_blk ?_
            exact rk_tof hj2 (Fr.le_of (by kernel_rfl) (by kernel_rfl) (by repeat' constructor)) ⟨S, C, H, CV, Y, g, ul, uh, rfl, hinv, f36, f41, f46, fc, f47, hb1, hb2, hb3, by omega, hw⟩
      · refine rk_exit rfl ?_
        exact rk_tof hj (Fr.le_of (by kernel_rfl) (by kernel_rfl) (by repeat' constructor)) ⟨rfl, hw⟩
    clear f36 f41 f46 f47 hc0 hinv hinv0 hw
    rintro fr V ⟨rfl, hw⟩
    first | refine rk_frame (by simp only [List.cons_append, List.nil_append, List.drop_succ_cons, List.drop_zero]; rfl) ?_ | refine wl_frame (by simp only [List.cons_append, List.nil_append, List.drop_succ_cons, List.drop_zero]; rfl) ?_
    refine rk_seq ?_
    refine rk_region ?_
    refine wl_p (fun _ => o_assign rfl) ?_
    refine wl_nil ?_
    refine ret1 rfl rfl ?_
    exact ⟨rfl, hw⟩
end Go.Proofs.YtklijaahbahcoaaDoor
