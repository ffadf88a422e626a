/-
  Maps from numbers to sectors (256 bytes).
-/
import Derived.Test.YtklijaahbahcoaaDoorMg2
import Derived.OpenShut
import Derived.Maps.OwnSet
import Derived.Carry
import Derived.Laws.Bits64b
import Derived.Shelf.SlIterI.Nil
import Derived.Shelf.SortM.Plain
import Derived.Shelf.SortM.SortNone
import Derived.Ground.GgzProg
import Derived.Ground.SlgmProg
import Derived.Shelf.Strconv.Itoa0
import Derived.Shelf.Bits.Mul64
import Derived.Shelf.SlGeneric
import Derived.Ground.NamesProg
import Derived.Test.YtklijaahbahcoaaDoorProg
import Derived.Laws.OwnMore
namespace Go.Proofs.YtklijaahbahcoaaDoor
set_option maxRecDepth 100000
open Go.RowKit
/-- A sector. -/
abbrev Sec := { l : List UInt8 // l.length = 256 }
abbrev vS (s : Sec) : Value := .agg (B8 s.1).toArray
theorem B8_in : ∀ {l m : List UInt8}, B8 l = B8 m → l = m
  | [], [], _ => rfl
  | [], _ :: _, h => by cases h
  | _ :: _, [], h => by cases h
  | a :: l, b :: m, h => by
    simp only [B8, List.map_cons, List.cons.injEq, Value.int.injEq, true_and] at h
    rw [UInt8.toNat_inj.1 (Int.ofNat.inj h.1), B8_in (l := l) (m := m) h.2]
theorem vS_inj {d e : Sec} (h : vS d = vS e) : d = e := by
  unfold vS at h
  injection h with h
  exact Subtype.ext (B8_in (List.toArray_inj h))
/-- How a sector in a map reads. -/
noncomputable def secElem (v : Value) : Option (DataW Unit × List MemPlace) := by
  classical
  exact if h : ∃ s : Sec, v = vS s then some (.lit (.string h.choose.1), []) else none
theorem secElem_mk (s : Sec) : secElem (vS s) = some (.lit (.string s.1), []) := by
  have h : ∃ s' : Sec, vS s = vS s' := ⟨s, rfl⟩
  unfold secElem
  rw [dif_pos h, ← vS_inj h.choose_spec]
theorem secElem_inv {v : Value} {z : DataW Unit × List MemPlace} (h : secElem v = some z) : ∃ s : Sec, v = vS s ∧ z = (.lit (.string s.1), []) := by
  unfold secElem at h
  split at h
  · rename_i h1
    injection h with h
    exact ⟨h1.choose, h1.choose_spec, h.symm⟩
  · cases h
theorem secElem_lit {v : Value} {s : Sec} {ps : List MemPlace} (h : secElem v = some (.lit (.string s.1), ps)) : v = vS s := by
  obtain ⟨s', rfl, e⟩ := secElem_inv h
  injection e with e _
  injection e with e
  injection e with e
  rw [Subtype.ext e]
/-- What is cached of the sector z. -/
def cAt (C : List (Option Sec)) (z : Int) : Option Sec := if 0 ≤ z then (C[z.toNat]?).getD none else none
def cnt (C : List (Option Sec)) : Nat := C.countP Option.isSome
theorem cnt_le (C : List (Option Sec)) : cnt C ≤ C.length := List.countP_le_length
theorem cAt_nat (C : List (Option Sec)) {i : Nat} (h : i < C.length) : cAt C (i : Int) = C[i] := by
  rw [cAt, if_pos (by omega)]
  simp [h]
theorem cAt_set (C : List (Option Sec)) {i : Nat} (h : i < C.length) (s : Option Sec) (z : Int) : cAt (C.set i s) z = if z = i then s else cAt C z := by
  unfold cAt
  by_cases hz : 0 ≤ z
  · rw [if_pos hz, if_pos hz, List.getElem?_set]
    by_cases e : z = i
    · rw [if_pos e, if_pos (by omega), if_pos h]; rfl
    · rw [if_neg e, if_neg (by omega)]
  · rw [if_neg hz, if_neg hz, if_neg (by omega)]
theorem cAt_none (n : Nat) (z : Int) : cAt (List.replicate n none) z = none := by
  unfold cAt
  split
  · rw [List.getElem?_replicate]
    split <;> rfl
  · rfl
theorem cnt_set : ∀ (C : List (Option Sec)) {i : Nat} (h : i < C.length) (s : Sec), cnt (C.set i (some s)) = if (C[i]).isSome then cnt C else cnt C + 1
  | [], _, h, _ => absurd h (Nat.not_lt_zero _)
  | x :: C, 0, _, s => by cases x <;> simp [cnt, List.countP_cons]
  | x :: C, i + 1, h, s => by
    have ih := cnt_set C (i := i) (by simpa using h) s
    unfold cnt at ih ⊢
    rw [List.set_cons_succ, List.countP_cons, ih, List.countP_cons, List.getElem_cons_succ]
    split <;> omega
/-- Block b is a map of sectors that holds what C has. -/
def MapS (w : World) (b : Nat) (C : List (Option Sec)) : Prop :=
  ∃ D, w.ownsMap (H := Unit) Tryd.prog 3 secElem b (cnt C) D ∧ Maps.size D = cnt C ∧ ∀ z, (Lit.int .i64 z).wf = true → Maps.has D (.int .i64 z) = (cAt C z).isSome ∧ ∀ s, cAt C z = some s → ∀ d, D.atKey (.int .i64 z) d = .lit (.string s.1)
theorem Tryd.keyI : Go.Maps.Keyed Tryd.prog 3 := Go.Maps.int_keyed Tryd.underlying3
section
variable {w w' : World} {b lo hi : Nat} {C : List (Option Sec)} {row : Option Nat}
theorem MapS.lt (h : MapS w b C) : b < w.heap.size := by obtain ⟨D, h, -⟩ := h; exact h.lt
theorem MapS.keep (h : MapS w b C) (hb : w'.heap[b]? = w.heap[b]?) : MapS w' b C := by
  obtain ⟨D, ⟨es, clock, h1, h2⟩, h3⟩ := h
  exact ⟨D, ⟨es, clock, hb.trans h1, h2⟩, h3⟩
theorem MapS.u (h : MapS w b C) (hb : Below w.heap.size w w') : MapS w' b C := h.keep (hb.block b h.lt)
theorem MapS.d (h : MapS w b C) : MapS w.drew b C := h
theorem MapS.k (h : MapS w b C) (hg : w.grownBy w' row) (ha : Ap row b (b + 1)) : MapS w' b C := h.keep (hg.block b h.lt (fun e => by have := ha b e.symm; omega))
theorem MapS.y {e : TypeId} (h : MapS w b C) (hg : Grew w w' e row) (_ : 0 = 0) : MapS w' b C := by
  refine h.keep (hg.g.block b h.lt (fun e' => ?_))
  obtain ⟨cs, f, h3⟩ := hg.ty b e'.symm
  obtain ⟨_, ⟨_, _, h4, _⟩, _⟩ := h
  rw [h4] at h3
  cases h3
theorem MapS.c (h : MapS w b C) (hc : Chg lo hi w w') (ha : b < lo ∨ hi ≤ b) : MapS w' b C := h.keep (hc.block b h.lt ha)
end
/-- A sector of zeros. -/
def z256 : Sec := ⟨List.replicate 256 0, List.length_replicate⟩
theorem B8_rep (n : Nat) : B8 (List.replicate n 0) = List.replicate n (.int .u8 0) := by
  unfold B8; rw [List.map_replicate]; rfl
theorem Tryd.zeroSec (w : World) : (zeroValue 67).run Tryd.prog w = .ok (vS z256) w := by
  have h : (zeroValue 67).run Tryd.prog w = .ok (.agg (List.replicate 256 (.int .u8 0)).toArray) w := by kernel_rfl
  rw [h]
  show _ = Result.ok (Value.agg (B8 (List.replicate 256 0)).toArray) w
  rw [B8_rep]
section
variable {P : Program} {fn : Func} {F : Ending → World → Prop} {N : Nat} {ks : List K} {ops : Array Oper} {tg : Tags} {l : List Oper} {fr : Fr} {w : World} {ty t t' e : TypeId} {pos : String} {aft : Array Edge} {gd : Option (Nat × Bool)} {d b n : Nat} {x y z : Operand} {C : List (Option Sec)} {q : Int} {s : Sec}
--@ rule lookup r o_lookS2
/-- v, ok := m[x] -/
theorem o_lookS2 {r : Option Sec} (hu : Tryd.prog.underlying t = some (.map 3 67)) (hx : fr.ev x = some (.map (some b))) (hy : fr.ev y = some (.int .i64 q)) (hS : MapS w b C) (hr : cAt C q = r) (hq : (Lit.int .i64 q).wf = true) :
    OpV Tryd.prog N fr w (.lookup t x y true) ty (.tuple #[vS (r.getD z256), .bool r.isSome]) w := fun a ha o ho' _ => by
  subst hr
  obtain ⟨D, ho, hs, hh⟩ := hS
  obtain ⟨h1, h2⟩ := hh q hq
  obtain ⟨v, ps, hrun, hv⟩ := ho.look_ok Tryd.keyI hu (Tryd.zeroSec w) (secElem_mk z256) (Go.Maps.keyOf_int_mk Tryd.underlying3 hq)
  have hv2 : v = vS ((cAt C q).getD z256) := by
    cases hc : cAt C q with
    | none =>
      rw [hc] at h1
      rw [Maps.atKey_of_not_has h1] at hv
      exact secElem_lit hv
    | some s =>
      rw [h2 s hc] at hv
      exact secElem_lit hv
  rw [h1] at hrun
  simp [execOp, ho', ha.ev hx, ha.ev hy, hrun, hv2]
--@ rule lookup r o_lookS1
/-- m[x] -/
theorem o_lookS1 {r : Option Sec} (hu : Tryd.prog.underlying t = some (.map 3 67)) (hx : fr.ev x = some (.map (some b))) (hy : fr.ev y = some (.int .i64 q)) (hS : MapS w b C) (hr : cAt C q = r) (hq : (Lit.int .i64 q).wf = true) :
    OpV Tryd.prog N fr w (.lookup t x y false) ty (vS (r.getD z256)) w := fun a ha o ho' _ => by
  subst hr
  obtain ⟨D, ho, hs, hh⟩ := hS
  obtain ⟨h1, h2⟩ := hh q hq
  obtain ⟨v, ps, hrun, hv⟩ := ho.lookup Tryd.keyI hu (Tryd.zeroSec w) (secElem_mk z256) (Go.Maps.keyOf_int_mk Tryd.underlying3 hq)
  have hv2 : v = vS ((cAt C q).getD z256) := by
    cases hc : cAt C q with
    | none =>
      rw [hc] at h1
      rw [Maps.atKey_of_not_has h1] at hv
      exact secElem_lit hv
    | some s =>
      rw [h2 s hc] at hv
      exact secElem_lit hv
  simp [execOp, ho', ha.ev hx, ha.ev hy, hrun, hv2]
--@ rule mapUpdate l wl_putS
/-- m[x] = s -/
theorem wl_putS {i : Nat} (hu : Tryd.prog.underlying t = some (.map 3 67)) (hx : fr.ev x = some (.map (some b))) (hy : fr.ev y = some (.int .i64 q)) (hS : MapS w b C) (hz : fr.ev z = some (vS s)) (hq : q = (i : Int)) (hi : i < C.length) (hL : C.length ≤ 1000000)
    (hk : ∀ w', MapS w' b (C.set i (some s)) → GrewM w w' b → w'.heap.size = w.heap.size → WL Tryd.prog fn F N ks ops tg.tail l fr w')
    (ht : tg.loud = true := by rfl) (hg : onG ops fr gd = true := by rfl) (hq : tg.calm = false ∨ tg.rw.may (some b) := by exact .inl rfl) : WL Tryd.prog fn F N ks ops tg (⟨none, .mapUpdate t x y z, ty, pos, aft, gd⟩ :: l) fr w := by
  rename_i hq0
  subst hq0
  have hwf : (Lit.int .i64 (i : Int)).wf = true := by
    simp only [Lit.wf, Bool.and_eq_true, decide_eq_true_eq]
    exact ⟨by show (-9223372036854775808 : Int) ≤ _; omega, by show _ ≤ (9223372036854775807 : Int); omega⟩
  have hcl := cnt_le C
  obtain ⟨D, ho, hs, hh⟩ := hS
  have hkl := Go.Maps.keyOf_int_mk Tryd.underlying3 hwf
  obtain ⟨w', hrun, ho', hT⟩ := ho.store Tryd.keyI hu (by simp only [maxLen]; omega) hkl (secElem_mk s)
  have hgr := hT.grown
  have hz' : w'.heap.size = w.heap.size := by obtain ⟨_, _, _, _, _, rfl⟩ := hT; simp [Go.ChangeMaps.setBlock]
  have hsz : Maps.size (D.put (.int .i64 (i : Int)) (.lit (.string s.1))) = cnt (C.set i (some s)) := by
    rw [Maps.size_put (ho.tidy Tryd.keyI), (hh _ hwf).1, cAt_nat C hi, cnt_set C hi, hs]
  refine wl_u (w' := w') (fun a ha o hop => ?_) (hk w' ⟨_, ?_, hsz, fun u hu' => ?_⟩ ⟨hgr, by obtain ⟨_, _, h4, _⟩ := ho; exact ⟨_, _, h4⟩⟩ hz') ht hg (hq.imp id (Rw.of_may hgr))
  · simp [execOp, hop, ha.ev hx, ha.ev hy, ha.ev hz, hrun]
  · rw [← hsz]
    obtain ⟨es, clock, g1, g2, g3, g4⟩ := ho'
    exact ⟨es, clock, g1, g2, by rw [g4]; simp [Maps.size, length_sorted], g4⟩
  · rw [cAt_set C hi]
    by_cases hd' : u = i
    · subst hd'
      rw [if_pos rfl]
      refine ⟨Maps.has_put_same ho.isMap (Tryd.keyI.key hkl) _, fun s' e d => ?_⟩
      injection e with e
      rw [← e]
      exact Maps.atKey_put_same ho.isMap (Tryd.keyI.key hkl) _ _
    · rw [if_neg hd']
      have hne : Lit.int .i64 u ≠ .int .i64 (i : Int) := fun h => hd' (by injection h)
      refine ⟨by rw [Maps.has_put_other hne]; exact (hh u hu').1, fun s' e d => ?_⟩
      rw [Maps.atKey_put_other hne]
      exact (hh u hu').2 s' e d
theorem MapS.made (w : World) (n : Nat) : MapS (w.alloc (.map #[] 0)) w.heap.size (List.replicate n none) := by
  have h0 : cnt (List.replicate n none) = 0 := by simp [cnt, List.countP_eq_zero]
  refine ⟨.map [], ?_, by rw [h0]; rfl, fun z _ => ?_⟩
  · rw [h0]; exact World.ownsMap_made w _ _ _
  · rw [cAt_none]; exact ⟨rfl, fun s e => by cases e⟩
--@ rule makeMap l wl_makeS
theorem wl_makeS (n : Nat) (hu : Tryd.prog.underlying t = some (.map 3 67)) (hk : ∀ b w', MapS w' b (List.replicate n none) → Below w.heap.size w w' → w.heap.size ≤ b → b < w'.heap.size → WL Tryd.prog fn F N ks ops tg.tail l ((d, .map (some b)) :: fr) w')
    (ht : tg.loud = true := by rfl) (hg : onG ops fr gd = true := by rfl) (hd : Nat.blt d N = true := by rfl) : WL Tryd.prog fn F N ks ops tg (⟨some d, .makeMap t none, ty, pos, aft, gd⟩ :: l) fr w :=
  wl_v (w' := w.alloc (.map #[] 0)) (fun a _ o ho _ => by simp [execOp, ho, run_makeMap]) (hk _ _ (MapS.made w n) (below_alloc w _) (Nat.le_refl _) (by simp)) ht hg hd (.inr (grown_of_below (below_alloc w _) _))
--@ rule clear l wl_clearM
/-- clear(m) -/
theorem wl_clearM (hu : Tryd.prog.underlying t = some (.map 3 67)) (hx : fr.ev x = some (.map (some b))) (hS : MapS w b C) 
    (hk : ∀ w', MapS w' b (List.replicate C.length none) → GrewM w w' b → w'.heap.size = w.heap.size → WL Tryd.prog fn F N ks ops tg.tail l fr w')
    (ht : tg.loud = true := by rfl) (hg : onG ops fr gd = true := by rfl) (hq : tg.calm = false ∨ some b = tg.row := by exact .inl rfl) : WL Tryd.prog fn F N ks ops tg (⟨none, .call { callee := .builtin .clear, args := #[x], argTypes := #[t] }, ty, pos, aft, gd⟩ :: l) fr w := by
  obtain ⟨D, ⟨es, clock, hb, Ft, _, _⟩, _⟩ := hS
  obtain ⟨w', hw'⟩ : ∃ w', Go.ChangeMaps.setBlock w b (.map #[] clock) = w' := ⟨_, rfl⟩
  have hT : w.mapTurned w' b := ⟨es, clock, #[], clock, hb, hw'.symm⟩
  have hgr := hT.grown
  have hz' : w'.heap.size = w.heap.size := by rw [← hw']; simp [Go.ChangeMaps.setBlock]
  have h0 : cnt (List.replicate C.length none) = 0 := by simp [cnt, List.countP_eq_zero]
  have hb' : w'.heap[b]? = some (.map #[] clock) := by rw [← hw']; exact Go.ChangeMaps.heap_setBlock_same hb _
  have hrun : (Builtin.clear_ #[t] ty #[.map (some b)]).run Tryd.prog w = .ok (.tuple #[]) w' := by
    rw [← hw']
    simp [Builtin.clear_, run_underlying hu, MapKept.run_getObj_map hb, MapKept.run_setObj_map _ hb, Result.andThen, Go.ChangeMaps.setBlock]
  refine wl_v0 (o_builtin (v := .tuple #[]) (xs := [x]) (vs := [.map (some b)]) (by simp [Fr.evs, hx]) (by simp [builtin, hrun]) (by simp)) (hk w' ⟨.map [], ?_, by rw [h0]; rfl, fun z _ => ?_⟩ ⟨hgr, ⟨_, _, hb⟩⟩ hz') ht hg (hq.imp id fun (e : some b = tg.row) => e ▸ hgr)
  · rw [h0]; exact ⟨#[], clock, hb', ⟨by simp, MapKept.stamped_empty clock, by simp⟩, Nat.le_refl _, rfl⟩
  · rw [cAt_none]; exact ⟨rfl, fun s e => by cases e⟩
end
end Go.Proofs.YtklijaahbahcoaaDoor
/-
  Plain laws of disks: what is there, what is cached, what a crash leaves. No program in sight.
-/
namespace Go.Proofs.YtklijaahbahcoaaDoor
set_option maxRecDepth 100000
open Go.RowKit
/-- What is read. -/
def cur : List Sec → List (Option Sec) → List Sec
  | s :: S, c :: C => c.getD s :: cur S C
  | S, _ => S
theorem cur_len : ∀ (S : List Sec) (C : List (Option Sec)), (cur S C).length = S.length
  | [], _ => by simp [cur]
  | s :: S, [] => by simp [cur]
  | s :: S, c :: C => by simp [cur, cur_len S C]
theorem cur_get : ∀ (S : List Sec) (C : List (Option Sec)) (i : Nat) (h : i < S.length) (h2 : i < C.length), (cur S C)[i]'(by rw [cur_len]; exact h) = (C[i]).getD S[i]
  | s :: S, c :: C, 0, _, _ => rfl
  | s :: S, c :: C, i + 1, h, h2 => by
    have := cur_get S C i (by simpa using h) (by simpa using h2)
    simpa [cur] using this
theorem cur_none : ∀ (S : List Sec) (n : Nat), cur S (List.replicate n none) = S
  | [], _ => by simp [cur]
  | s :: S, 0 => by simp [cur]
  | s :: S, n + 1 => by rw [List.replicate_succ, cur, cur_none S n]; rfl
theorem cur_set : ∀ (S : List Sec) (C : List (Option Sec)) (i : Nat) (s : Sec), C.length = S.length → cur S (C.set i (some s)) = (cur S C).set i s
  | [], C, i, s, h => by
    obtain rfl : C = [] := List.length_eq_zero_iff.1 h
    simp [cur]
  | x :: S, [], i, s, h => by cases h
  | x :: S, c :: C, 0, s, h => by simp [cur]
  | x :: S, c :: C, i + 1, s, h => by simp [cur, cur_set S C i s (by simpa using h)]
/-- The cached sectors' numbers. -/
def ixs : Nat → List (Option Sec) → List Nat
  | _, [] => []
  | k, none :: C => ixs (k + 1) C
  | k, some _ :: C => k :: ixs (k + 1) C
def cix (C : List (Option Sec)) : List Nat := ixs 0 C
theorem ixs_len : ∀ (k : Nat) (C : List (Option Sec)), (ixs k C).length = cnt C
  | _, [] => rfl
  | k, none :: C => by rw [ixs, ixs_len (k + 1) C]; simp [cnt]
  | k, some _ :: C => by rw [ixs, List.length_cons, ixs_len (k + 1) C]; simp [cnt]
theorem cix_len (C : List (Option Sec)) : (cix C).length = cnt C := ixs_len 0 C
theorem ixs_mem : ∀ (k : Nat) (C : List (Option Sec)) (j : Nat), j ∈ ixs k C ↔ k ≤ j ∧ ∃ h : j - k < C.length, (C[j - k]).isSome
  | k, [], j => by simp [ixs]
  | k, c :: C, j => by
    have ih := ixs_mem (k + 1) C j
    have key : (k + 1 ≤ j ∧ ∃ h : j - (k + 1) < C.length, (C[j - (k + 1)]).isSome) ↔ (k + 1 ≤ j ∧ ∃ h : j - k < (c :: C).length, ((c :: C)[j - k]).isSome) := by
      constructor
      · rintro ⟨h1, h2, h3⟩
        refine ⟨h1, by simp; omega, ?_⟩
        rw [List.getElem_cons, dif_neg (by omega)]
        simpa [show j - k - 1 = j - (k + 1) by omega] using h3
      · rintro ⟨h1, h2, h3⟩
        refine ⟨h1, by simp at h2; omega, ?_⟩
        rw [List.getElem_cons, dif_neg (by omega)] at h3
        simpa [show j - k - 1 = j - (k + 1) by omega] using h3
    cases c with
    | none =>
      rw [ixs, ih, key]
      constructor
      · rintro ⟨h1, h2⟩; exact ⟨by omega, h2⟩
      · rintro ⟨h1, h2, h3⟩
        refine ⟨?_, h2, h3⟩
        rcases Nat.lt_or_ge k j with h | h
        · omega
        · obtain rfl : j = k := by omega
          simp at h3
    | some s =>
      rw [ixs, List.mem_cons, ih, key]
      constructor
      · rintro (rfl | ⟨h1, h2⟩)
        · exact ⟨Nat.le_refl _, by simp, by simp⟩
        · exact ⟨by omega, h2⟩
      · rintro ⟨h1, h2⟩
        rcases Nat.lt_or_ge k j with h | h
        · exact .inr ⟨by omega, h2⟩
        · exact .inl (by omega)
theorem cix_mem (C : List (Option Sec)) (j : Nat) : j ∈ cix C ↔ ∃ h : j < C.length, (C[j]).isSome := by
  rw [cix, ixs_mem]; simp
theorem ixs_sorted : ∀ (k : Nat) (C : List (Option Sec)), (ixs k C).Pairwise (· < ·)
  | _, [] => List.Pairwise.nil
  | k, none :: C => ixs_sorted (k + 1) C
  | k, some _ :: C => List.pairwise_cons.2 ⟨fun j hj => by have := ((ixs_mem _ _ _).1 hj).1; omega, ixs_sorted (k + 1) C⟩
theorem cix_lt (C : List (Option Sec)) {j : Nat} (h : j < (cix C).length) : (cix C)[j] < C.length := by
  obtain ⟨h1, _⟩ := (cix_mem C _).1 (List.getElem_mem h); exact h1
theorem cix_some (C : List (Option Sec)) {j : Nat} (h : j < (cix C).length) : (C[(cix C)[j]]'(cix_lt C h)).isSome := by
  obtain ⟨h1, h2⟩ := (cix_mem C _).1 (List.getElem_mem h); exact h2
theorem ixs_none (k n : Nat) : ixs k (List.replicate n none) = [] := by
  induction n generalizing k with
  | zero => rfl
  | succ n ih => rw [List.replicate_succ, ixs, ih]
theorem cix_none (n : Nat) : cix (List.replicate n none) = [] := ixs_none 0 n
/-- What a crash leaves: those of the cached sectors for which kp has true are there. -/
def crash : List Sec → List (Option Sec) → List Bool → List Sec
  | s :: S, none :: C, kp => s :: crash S C kp
  | s :: S, some c :: C, kp => (if kp.headD false then c else s) :: crash S C kp.tail
  | S, _, _ => S
theorem crash_len : ∀ (S : List Sec) (C : List (Option Sec)) (kp : List Bool), (crash S C kp).length = S.length
  | [], _, _ => by simp [crash]
  | s :: S, [], _ => by simp [crash]
  | s :: S, none :: C, kp => by simp [crash, crash_len S C kp]
  | s :: S, some c :: C, kp => by simp [crash, crash_len S C kp.tail]
theorem crash_nil : ∀ (S : List Sec) (C : List (Option Sec)), crash S C [] = S
  | [], _ => by simp [crash]
  | s :: S, [] => by simp [crash]
  | s :: S, none :: C => by simp [crash, crash_nil S C]
  | s :: S, some c :: C => by simp [crash, crash_nil S C]
theorem crash_all : ∀ (S : List Sec) (C : List (Option Sec)) (n : Nat), cnt C ≤ n → crash S C (List.replicate n true) = cur S C
  | [], C, _, _ => by cases C <;> simp [crash, cur]
  | s :: S, [], _, _ => by simp [crash, cur]
  | s :: S, none :: C, n, h => by
    rw [crash, cur, crash_all S C n (by simpa [cnt] using h)]; rfl
  | s :: S, some c :: C, n, h => by
    have h1 : cnt (some c :: C) = cnt C + 1 := by simp [cnt]
    obtain ⟨m, rfl⟩ : ∃ m, n = m + 1 := ⟨n - 1, by omega⟩
    rw [crash, cur, List.replicate_succ, List.tail_cons, crash_all S C m (by omega)]; rfl
/-- One more of the cached sectors. -/
theorem crash_more : ∀ (k : Nat) (S : List Sec) (C : List (Option Sec)) (kp : List Bool) (b : Bool), C.length = S.length → (h : kp.length < (ixs k C).length) →
    crash S C (kp ++ [b]) = if b then (crash S C kp).set ((ixs k C)[kp.length] - k) ((cAt C ((((ixs k C)[kp.length] - k : Nat)) : Int)).getD z256) else crash S C kp
  | k, [], C, kp, b, hl, h => by
    obtain rfl : C = [] := List.length_eq_zero_iff.1 hl
    simp [ixs] at h
  | k, s :: S, [], kp, b, hl, h => by cases hl
  | k, s :: S, none :: C, kp, b, hl, h => by
    have ih := crash_more (k + 1) S C kp b (by simpa using hl) (by simpa [ixs] using h)
    have hge : k + 1 ≤ (ixs (k + 1) C)[kp.length]'(by simpa [ixs] using h) := ((ixs_mem _ _ _).1 (List.getElem_mem _)).1
    obtain ⟨j, hj⟩ : ∃ j, (ixs (k + 1) C)[kp.length]'(by simpa [ixs] using h) = k + 1 + j := ⟨_, (Nat.add_sub_of_le hge).symm⟩
    have hj2 : (ixs k (none :: C))[kp.length] = k + 1 + j := hj
    rw [hj] at ih
    rw [hj2]
    simp only [crash, ih]
    have e1 : k + 1 + j - (k + 1) = j := by omega
    have e2 : k + 1 + j - k = j + 1 := by omega
    have e3 : cAt (none :: C) ((j + 1 : Nat) : Int) = cAt C (j : Int) := by
      rw [cAt, if_pos (by omega), cAt, if_pos (by omega)]
      have : ((j + 1 : Nat) : Int).toNat = (j : Int).toNat + 1 := by omega
      rw [this, List.getElem?_cons_succ]
    rw [e1, e2, e3]
    cases b <;> simp
  | k, s :: S, some c :: C, kp, b, hl, h => by
    cases kp with
    | nil =>
      have e1 : (ixs k (some c :: C))[([] : List Bool).length] - k = 0 := by simp [ixs]
      rw [e1]
      have e2 : cAt (some c :: C) ((0 : Nat) : Int) = some c := by simp [cAt]
      rw [e2]
      simp only [List.nil_append, crash, List.headD_cons, List.tail_cons, List.headD_nil, List.tail_nil]
      cases b <;> simp [crash_nil]
    | cons x kp =>
      have ih := crash_more (k + 1) S C kp b (by simpa using hl) (by simpa [ixs] using h)
      have hk : kp.length < (ixs (k + 1) C).length := by simpa [ixs] using h
      have hge : k + 1 ≤ (ixs (k + 1) C)[kp.length] := ((ixs_mem _ _ _).1 (List.getElem_mem _)).1
      obtain ⟨j, hj⟩ : ∃ j, (ixs (k + 1) C)[kp.length] = k + 1 + j := ⟨_, (Nat.add_sub_of_le hge).symm⟩
      have hj2 : (ixs k (some c :: C))[(x :: kp).length] = k + 1 + j := hj
      rw [hj] at ih
      rw [hj2]
      have e1 : k + 1 + j - (k + 1) = j := by omega
      have e2 : k + 1 + j - k = j + 1 := by omega
      have e3 : cAt (some c :: C) ((j + 1 : Nat) : Int) = cAt C (j : Int) := by
        rw [cAt, if_pos (by omega), cAt, if_pos (by omega)]
        have : ((j + 1 : Nat) : Int).toNat = (j : Int).toNat + 1 := by omega
        rw [this, List.getElem?_cons_succ]
      simp only [List.cons_append, crash, List.headD_cons, List.tail_cons, ih]
      rw [e1, e2, e3]
      cases b <;> simp <;> rfl
theorem crash_step {S : List Sec} {C : List (Option Sec)} {kp : List Bool} (b : Bool) (hl : C.length = S.length) (h : kp.length < (cix C).length) :
    crash S C (kp ++ [b]) = if b then (crash S C kp).set (cix C)[kp.length] ((cAt C (((cix C)[kp.length] : Nat) : Int)).getD z256) else crash S C kp := by
  exact crash_more 0 S C kp b hl h
theorem crash_at {S : List Sec} {C : List (Option Sec)} {kp : List Bool} {j : Nat} (b : Bool) (hl : C.length = S.length) (hk : kp.length = j) (h : j < (cix C).length) :
    crash S C (kp ++ [b]) = if b then (crash S C kp).set (cix C)[j] ((cAt C (((cix C)[j] : Nat) : Int)).getD z256) else crash S C kp := by
  subst hk
  exact crash_step b hl h
theorem crash_true {S : List Sec} {C : List (Option Sec)} {j : Nat} (hl : C.length = S.length) (h : j < (cix C).length) :
    crash S C (List.replicate (j + 1) true) = (crash S C (List.replicate j true)).set (cix C)[j] ((cAt C (((cix C)[j] : Nat) : Int)).getD z256) := by
  rw [List.replicate_succ']
  have := crash_at (kp := List.replicate j true) true hl List.length_replicate h
  rwa [if_pos rfl] at this
theorem crash_keep {S : List Sec} {C : List (Option Sec)} {kp : List Bool} {j : Nat} (hl : C.length = S.length) (h : j < (cix C).length) (hk : j < kp.length) :
    crash S C (kp.take (j + 1)) = if kp[j] then (crash S C (kp.take j)).set (cix C)[j] ((cAt C (((cix C)[j] : Nat) : Int)).getD z256) else crash S C (kp.take j) := by
  rw [List.take_succ_eq_append_getElem hk]
  exact crash_at _ hl (by rw [List.length_take]; omega) h
/-- What lies behind the cached sectors does not matter. -/
theorem crash_take : ∀ (S : List Sec) (C : List (Option Sec)) (kp : List Bool) (n : Nat), cnt C ≤ n → crash S C (kp.take n) = crash S C kp
  | [], _, _, _, _ => by simp [crash]
  | s :: S, [], _, _, _ => by simp [crash]
  | s :: S, none :: C, kp, n, h => by simp [crash, crash_take S C kp n (by simpa [cnt] using h)]
  | s :: S, some c :: C, kp, n, h => by
    have h1 : cnt (some c :: C) = cnt C + 1 := by simp [cnt]
    obtain ⟨m, rfl⟩ : ∃ m, n = m + 1 := ⟨n - 1, by omega⟩
    cases kp with
    | nil => simp [crash]
    | cons x kp => simp [crash, crash_take S C kp m (by omega)]
/-- One more sector. -/
theorem crash_snoc : ∀ (S : List Sec) (C : List (Option Sec)) (s : Sec) (c : Option Sec) (kp : List Bool), C.length = S.length →
    crash (S ++ [s]) (C ++ [c]) kp = crash S C kp ++ [match c with | none => s | some x => if (kp.drop (cnt C)).headD false then x else s]
  | [], C, s, c, kp, hl => by
    obtain rfl : C = [] := List.length_eq_zero_iff.1 hl
    cases c <;> simp [crash, cnt]
  | x :: S, [], s, c, kp, hl => by cases hl
  | x :: S, none :: C, s, c, kp, hl => by
    have h1 : cnt (none :: C) = cnt C := by simp [cnt]
    simp [crash, crash_snoc S C s c kp (by simpa using hl), h1]
  | x :: S, some y :: C, s, c, kp, hl => by
    have h1 : cnt (some y :: C) = cnt C + 1 := by simp [cnt]
    simp only [List.cons_append, crash, crash_snoc S C s c kp.tail (by simpa using hl), h1]
    have e : kp.tail.drop (cnt C) = kp.drop (cnt C + 1) := by rw [List.drop_tail]
    rw [e]
end Go.Proofs.YtklijaahbahcoaaDoor
/-
  Rows of elements of any size: made, and written element by element; elements that are arrays. No function of the program is named here.
-/
namespace Go.Proofs.YtklijaahbahcoaaDoor
set_option maxRecDepth 100000
open Go.RowKit
theorem getElem_spl {L vs : List Value} {k i : Nat} (h : k + vs.length ≤ L.length) : (spl L k vs)[i]? = if k ≤ i ∧ i < k + vs.length then vs[i - k]? else L[i]? := by
  unfold spl
  have hl : (L.take k).length = k := by rw [List.length_take]; omega
  rw [List.append_assoc]
  rcases Nat.lt_or_ge i k with h1 | h1
  · rw [if_neg (by omega), List.getElem?_append_left (by omega), List.getElem?_take_of_lt h1]
  · rw [List.getElem?_append_right (by omega), hl]
    rcases Nat.lt_or_ge i (k + vs.length) with h2 | h2
    · rw [if_pos ⟨h1, h2⟩, List.getElem?_append_left (by omega)]
    · rw [if_neg (by omega), List.getElem?_append_right (by omega), List.getElem?_drop]
      congr 1; omega
theorem part_spl {xs vs : List Value} {sz n i j : Nat} (hx : xs.length = n * sz) (hv : vs.length = sz) (hj : j < n) (hi : i < n) : part (spl xs (j * sz) vs) sz i = if i = j then vs else part xs sz i := by
  have hj2 : (j + 1) * sz ≤ n * sz := Nat.mul_le_mul_right _ hj
  have hi2 : (i + 1) * sz ≤ n * sz := Nat.mul_le_mul_right _ hi
  rw [Nat.add_mul, Nat.one_mul] at hj2 hi2
  have hle : j * sz + vs.length ≤ xs.length := by rw [hv, hx]; exact hj2
  apply List.ext_getElem?
  intro q
  unfold part
  rw [List.getElem?_take, List.getElem?_drop, getElem_spl hle]
  by_cases hq : q < sz
  · rw [if_pos hq]
    by_cases e : i = j
    · subst e
      rw [if_pos ⟨by omega, by omega⟩, if_pos rfl]
      congr 1; omega
    · rw [if_neg e, List.getElem?_take_of_lt hq, List.getElem?_drop, if_neg]
      rintro ⟨h1, h2⟩
      rcases Nat.lt_or_ge i j with h3 | h3
      · have : (i + 1) * sz ≤ j * sz := Nat.mul_le_mul_right _ h3
        rw [Nat.add_mul, Nat.one_mul] at this; omega
      · have : (j + 1) * sz ≤ i * sz := Nat.mul_le_mul_right _ (by omega)
        rw [Nat.add_mul, Nat.one_mul] at this; omega
  · rw [if_neg hq]
    split
    · rw [List.getElem?_eq_none (by omega)]
    · rw [List.getElem?_eq_none (by rw [List.length_take]; omega)]
section
variable {P : Program} {w : World} {lo hi e sz n c j : Nat} {A : Option Addr} {xs vs : List Value}
theorem RowH.blk_ (h : RowH w lo hi e sz A n c xs) (hn : 0 < n) : ∃ g cur, A = some ⟨g, 0, none⟩ ∧ lo ≤ g ∧ g < hi ∧ Blk w g e cur ∧ n ≤ c ∧ cur.length = c * sz ∧ cur.take (n * sz) = xs := by
  rcases h.o.2 with ⟨_, h0⟩ | ⟨g, cap, cur, hv, h1, h2, h3, h4, h5, h6⟩
  · omega
  · injection hv with e1 _ e3
    subst e1; subst e3
    exact ⟨g, cur.toList, rfl, h1, h.hi g rfl, by unfold Blk; rw [Array.toArray_toList]; exact h2, h3, by rw [Array.length_toList, h5], h6⟩
theorem RowH.put (h : RowH w lo hi e sz A n c xs) (hj : j < n) (hv : vs.length = sz) (h1 : ∀ u ∈ vs, u.oneCell' = true) (h0 : 0 < sz) :
    ∃ g w', A = some ⟨g, 0, none⟩ ∧ (storeCells ⟨g, j * sz, none⟩ vs 0).run P w = .ok () w' ∧ RowH w' lo hi e sz A n c (spl xs (j * sz) vs) ∧ Grew w w' e (blk A) ∧ w'.heap.size = w.heap.size := by
  have hT := h.ty
  have hrd := h.rd.1
  have hcap := h.cap
  have ho := h.o
  obtain ⟨g, cur, rfl, g1, g2, hB, g3, g4, g5⟩ := h.blk_ (by omega)
  have hj2 : (j + 1) * sz ≤ n * sz := Nat.mul_le_mul_right _ hj
  have hn2 : n * sz ≤ c * sz := Nat.mul_le_mul_right _ g3
  rw [Nat.add_mul, Nat.one_mul] at hj2
  obtain ⟨w', hr, hB', hgr, hz⟩ := run_storeCells_blk (P := P) (o := j * sz) vs 0 cur w hB h1 (by omega)
  rw [Nat.add_zero] at hB'
  refine ⟨g, w', rfl, hr, ⟨⟨?_, .inr ⟨g, c, (spl cur (j * sz) vs).toArray, rfl, g1, hB', g3, ?_, ?_, ?_⟩⟩, h.hi⟩, ⟨hgr, hT⟩, hz⟩
  · rw [spl_length (by omega), hrd]
  · rcases ho.2 with ⟨hv', h0'⟩ | ⟨_, cap, _, hv', _, _, _, h4, _⟩
    · omega
    · injection hv' with _ _ e3; rw [e3]; exact h4
  · rw [List.size_toArray, spl_length (by omega), g4]
  · show (spl cur (j * sz) vs).take (n * sz) = _
    apply List.ext_getElem?
    intro q
    rw [List.getElem?_take, getElem_spl (by omega), getElem_spl (by rw [hrd]; omega), ← g5, List.getElem?_take]
    by_cases hq : q < n * sz
    · rw [if_pos hq, if_pos hq]
    · rw [if_neg hq, if_neg hq, if_neg (by omega)]
end
section
variable {α : Type} {X : GoT α} {e e' : TypeId} {w : World} {lo hi c j : Nat} {A : Option Addr} {L : List α} {vs : List Value} {P : Program} {a : α}
theorem OwnS.put (h : OwnS X e w lo hi A c L) (hj : j < L.length) (hX : X.T w vs a) (h1 : ∀ u ∈ vs, u.oneCell' = true) (h0 : 0 < X.sz) (hne : e ∉ X.tys) :
    ∃ g w', A = some ⟨g, 0, none⟩ ∧ (storeCells ⟨g, j * X.sz, none⟩ vs 0).run P w = .ok () w' ∧ OwnS X e w' lo hi A c (L.set j a) ∧ Grew w w' e (blk A) ∧ w'.heap.size = w.heap.size := by
  obtain ⟨xs, h2, h3⟩ := h
  have hv := X.len (X.tr hX)
  obtain ⟨g, w', e1, e2, e3, e4, e5⟩ := h2.put (P := P) hj hv h1 h0
  refine ⟨g, w', e1, e2, ⟨_, by rw [List.length_set]; exact e3, fun i hi => ?_⟩, e4, e5⟩
  rw [List.length_set] at hi
  rw [part_spl h2.rd.1 hv hj hi, List.getElem_set]
  split
  · rw [if_pos (by omega)]; exact X.ty hX e4 hne
  · rw [if_neg (by omega)]; exact X.ty (h3 i hi) e4 hne
end
section
variable {α : Type} {X : GoT α} {P : Program} {fn : Func} {F : Ending → World → Prop} {N : Nat} {ks : List K} {ops : Array Oper} {tg : Tags} {l : List Oper} {fr : Fr} {w : World} {ty t e : TypeId} {z : Value} {pos : String} {aft : Array Edge} {gd : Option (Nat × Bool)} {k1 k2 : IntKind} {d n m bytes c j lo hi : Nat} {x y : Operand} {A : Option Addr} {L : List α} {a : α} {vs : List Value}
/-- An element of several cells is written. -/
theorem wl_stS (hs : ∀ w, (sizeOf t).run P w = .ok m w) (hx : fr.ev x = some (.pointer (some (adr A (j * m))))) (hy : fr.ev y = some (.agg vs.toArray)) (hm : m = X.sz) (hown : OwnS X e w lo hi A c L) (hj : j < L.length) (hX : X.T w vs a) (h1 : ∀ u ∈ vs, u.oneCell' = true) (h0 : 0 < X.sz) (hne : e ∉ X.tys)
    (hk : ∀ w', OwnS X e w' lo hi A c (L.set j a) → Grew w w' e (blk A) → Below lo w w' → w'.heap.size = w.heap.size → WL P fn F N ks ops tg.tail l fr w') (ht : tg.loud = true := by rfl) (hg : onG ops fr gd = true := by rfl) (hq : tg.calm = false ∨ tg.rw.may (blk A) := by exact .inl rfl) :
    WL P fn F N ks ops tg (⟨none, .store t x y, ty, pos, aft, gd⟩ :: l) fr w := by
  subst hm
  have hv := X.len (X.tr hX)
  have hown0 := hown
  obtain ⟨g, w', rfl, hr, e3, e4, e5⟩ := hown.put (P := P) hj hX h1 h0 hne
  have hbl : Below lo w w' := by
    obtain ⟨xs, g1, _⟩ := hown0
    have hlt := RowH.lt g1 g rfl
    exact e4.below (by omega) (fun k hk => by have hk' : g = k := by simpa [blk] using hk
                                              omega)
  have ead : adr (some (⟨g, 0, none⟩ : Addr)) (j * X.sz) = ⟨g, j * X.sz, none⟩ := by simp [adr, add_plain]
  rw [ead] at hx
  refine wl_u (w' := w') (fun a ha op hop => ?_) (hk w' e3 e4 hbl e5) ht hg (hq.imp id (Rw.of_may e4.g))
  have hcs : (Value.agg vs.toArray).cells = vs.toArray := rfl
  simp [execOp, hop, ha.ev hx, ha.ev hy, Instr.storeAt, Instr.sureAddr, storeVar, hcs, hs, hv, hr]
theorem madeCells_part (z : Value) (n : Nat) (h0 : 0 < z.cells.size) {i : Nat} (hi : i < n) : part (madeCells z.cells (n * z.cells.size)).toList z.cells.size i = z.cells.toList := by
  have hi2 : (i + 1) * z.cells.size ≤ n * z.cells.size := Nat.mul_le_mul_right _ hi
  rw [Nat.add_mul, Nat.one_mul] at hi2
  apply List.ext_getElem?
  intro q
  unfold part
  rw [List.getElem?_take]
  by_cases hq : q < z.cells.size
  · rw [if_pos hq, List.getElem?_drop, Array.getElem?_toList, Array.getElem?_toList]
    have hlt : i * z.cells.size + q < (madeCells z.cells (n * z.cells.size)).size := by rw [size_madeCells]; omega
    rw [Array.getElem?_eq_getElem hlt, Array.getElem?_eq_getElem hq]
    simp only [madeCells, Array.getElem_map, Array.getElem_range]
    rw [Nat.mul_comm i, Nat.mul_add_mod, Nat.mod_eq_of_lt hq, getElem!_pos z.cells q hq]
  · rw [if_neg hq, List.getElem?_eq_none (by rw [Array.length_toList]; omega)]
/-- make. -/
theorem wl_mkS {E C : Int} (T : RowT P t e z X.sz bytes) (hx : fr.ev x = some (.int k1 E)) (hy : fr.ev y = some (.int k2 C)) (hE : E = (n : Int)) (hC : C = (n : Int)) (hn : n ≤ 1000000000) (hb : n * bytes ≤ 140737488355328) (hX : ∀ w, X.T w z.cells.toList a)
    (hk : ∀ A w', OwnS X e w' w.heap.size w'.heap.size A n (List.replicate n a) → Below w.heap.size w w' → WL P fn F N ks ops tg.tail l ((d, .slice A n n) :: fr) w')
    (ht : tg.loud = true := by rfl) (hg : onG ops fr gd = true := by rfl) (hd : Nat.blt d N = true := by rfl) : WL P fn F N ks ops tg (⟨some d, .makeSlice t x y, ty, pos, aft, gd⟩ :: l) fr w := by
  subst hC; subst hE
  obtain ⟨i, hi, hz, hs, hb'⟩ := info_parts T.hi
  obtain ⟨w', hrun, r1, r2⟩ := run_make_full (P := P) w w.heap.size t e i _ X.sz T.ht hi hz hs k1 k2 n (by rw [hb', Nat.mul_comm]; omega) (by simp only [maxLen]; omega) (Nat.le_refl _)
  have hbl : Below w.heap.size w w' := (Below.refl _ _).grown r2 (Nat.le_refl _) (by simp)
  refine wl_v (fun a ha o ho _ => by simp [execOp, ho, ha.ev hx, ha.ev hy, hrun]) (hk (some ⟨w.heap.size, 0, none⟩) w' ⟨(madeCells z.cells (n * X.sz)).toList, ⟨?_, fun k hk => ?_⟩, fun i hi => ?_⟩ hbl) ht hg hd (.inr (grown_of_below hbl _))
  · rw [List.length_replicate]; exact r1
  · exact (World.ownsRow.lt r1 k (by rw [blk_own]; exact hk)).2
  · rw [List.length_replicate] at hi
    have := madeCells_part z n (by rw [T.hz]; exact T.h0) hi
    rw [T.hz] at this
    rw [this, List.getElem_replicate]
    exact hX w'
end
end Go.Proofs.YtklijaahbahcoaaDoor
/-
  Rows of numbers (int) in the form that the recorder's search applies. No function of the program is named here.
-/
namespace Go.Proofs.YtklijaahbahcoaaDoor
set_option maxRecDepth 100000
open Go.RowKit
theorem Tryd.rowI : RowT Tryd.prog 35 3 (.int .i64 0) 1 8 := ⟨Tryd.underlying35, by kernel_rfl, rfl, by omega⟩

/-! Rows of numbers. -/
def OwnZ (w : World) (lo hi : Nat) (A : Option Addr) (c : Nat) (zs : List Int) : Prop := RowH w lo hi 3 1 A zs.length c (zs.map (Value.int .i64))
def RZ (w : World) (A : Option Addr) (zs : List Int) : Prop := Reads w 1 A zs.length (zs.map (Value.int .i64))
section
variable {w w' : World} {lo hi c n : Nat} {e' : TypeId} {A : Option Addr} {L : List Int} {row : Option Nat}
theorem RZ.u (h : RZ w A L) (hb : Below w.heap.size w w') : RZ w' A L := h.below hb
theorem RZ.d (h : RZ w A L) : RZ w.drew A L := h
theorem RZ.nil_ : RZ w none [] := Reads.none_ _ _ _
theorem RZ.to_Reads (h : RZ w A L) : Reads w 1 A L.length (L.map (Value.int .i64)) := h
theorem OwnZ.u (h : OwnZ w lo hi A c L) (hb : Below w.heap.size w w') : OwnZ w' lo hi A c L := RowH.u h hb
theorem OwnZ.d (h : OwnZ w lo hi A c L) : OwnZ w.drew lo hi A c L := RowH.d h
theorem OwnZ.k (h : OwnZ w lo hi A c L) (hg : w.grownBy w' row) (ha : Ap row lo hi) : OwnZ w' lo hi A c L := RowH.k h hg ha
theorem OwnZ.y (h : OwnZ w lo hi A c L) (hg : Grew w w' e' row) (hne : e' ≠ 3) : OwnZ w' lo hi A c L := RowH.y h hg hne
theorem OwnZ.m {b : Nat} (h : OwnZ w lo hi A c L) (hg : GrewM w w' b) : OwnZ w' lo hi A c L := RowH.m h hg
theorem OwnZ.ap (h : OwnZ w lo hi A c L) {lo' hi' : Nat} (hd : hi ≤ lo' ∨ hi' ≤ lo) : Ap (blk A) lo' hi' := RowH.ap h hd
theorem OwnZ.cap (h : OwnZ w lo hi A c L) : L.length ≤ c := RowH.cap h
theorem OwnZ.to_RZ (h : OwnZ w lo hi A c L) : RZ w A L := RowH.rd h
theorem OwnZ.to_Reads (h : OwnZ w lo hi A c L) : Reads w 1 A L.length (L.map (Value.int .i64)) := RowH.rd h
theorem OwnZ.nil_ : OwnZ w lo hi none 0 [] := RowH.nil _ _ _ _ _
theorem OwnZ.base {lo' hi' : Nat} (h : OwnZ w lo hi A c L) (h1 : lo' ≤ lo) (h2 : hi ≤ hi') : OwnZ w lo' hi' A c L := RowH.base h h1 h2
end
section
variable {fn : Func} {F : Ending → World → Prop} {N : Nat} {ks : List K} {ops : Array Oper} {tg : Tags} {l : List Oper} {fr : Fr} {w : World} {ty t t' : TypeId} {pos : String} {aft : Array Edge} {gd : Option (Nat × Bool)} {d g n c j q lo hi : Nat} {x y k : Operand} {A X : Option Addr}
--@ rule load r o_loadRZ
theorem o_loadRZ {zs : List Int} (ha' : ∀ w, (isAgg t).run Tryd.prog w = .ok false w) (hx : fr.ev x = some (.pointer (some (adr A j)))) (hr : RZ w A zs) (hj : j < zs.length) : OpV Tryd.prog N fr w (.load t x) ty (.int .i64 zs[j]) w := o_loadZ ha' hx hr hj
--@ rule append l wl_appZ
theorem wl_appZ {L M : List Int} (hx : fr.ev x = some (.slice A n c)) (hown : OwnZ w lo hi A c L) (hn : n = L.length) (hy : fr.ev y = some (.slice X j q)) (hr : RZ w X M) (hj : j = M.length) (hlen : L.length + M.length ≤ 4000000) (hB : lo ≤ w.heap.size)
    (h : ∀ A' c' w', OwnZ w' lo w'.heap.size A' c' (L ++ M) → Grew w w' 3 (blk A) → Below lo w w' → (blk A' = blk A ∨ blk A' = some w.heap.size) → WL Tryd.prog fn F N ks ops tg.tail l ((d, .slice A' (L ++ M).length c') :: fr) w')
    (ht : tg.loud = true := by rfl) (hg : onG ops fr gd = true := by rfl) (hd : Nat.blt d N = true := by rfl) (hq : tg.calm = false ∨ blk A = none ∨ blk A = tg.row := by exact .inl rfl) :
    WL Tryd.prog fn F N ks ops tg (⟨some d, .call { callee := .builtin .append, args := #[x, y], argTypes := #[35, 35] }, ty, pos, aft, gd⟩ :: l) fr w := by
  subst hn; subst hj
  refine wl_appR Tryd.rowI hx hown hy hr (fun u hu => by obtain ⟨z, _, rfl⟩ := List.mem_map.1 hu; rfl) (by simp only [maxLen]; omega) (by omega) hB (fun A' c' w' h1 h2 h3 h4 => ?_) ht hg hd hq
  have := h A' c' w' (by unfold OwnZ; rw [List.map_append, List.length_append]; exact h1) h2 h3 h4
  rwa [List.length_append] at this
--@ rule buildSlice l wl_litZH
theorem wl_litZH {ps : Array (Nat × Operand)} {xs : List Operand} {vs : List Value} (zs : List Int) (hxs : ps.toList.map Prod.snd = xs) (hx : fr.evs xs = some vs) (hv : vs = zs.map (Value.int .i64)) (hn : zs.length = n) (hps : ps = ((List.range' 0 n).zip xs).toArray) (hm : Nat.ble (n * 1) 1000000 = true)
    (hk : ∀ A w', OwnZ w' w.heap.size w'.heap.size A n zs → Below w.heap.size w w' → WL Tryd.prog fn F N ks ops tg.tail l ((d, .slice A n n) :: fr) w')
    (ht : tg.loud = true := by rfl) (hg : onG ops fr gd = true := by rfl) (hd : Nat.blt d N = true := by rfl) : WL Tryd.prog fn F N ks ops tg (⟨some d, .buildSlice 35 n ps, ty, pos, aft, gd⟩ :: l) fr w := by
  refine wl_litR Tryd.rowI Tryd.sizeOf3 Tryd.zeroValue3 hxs hps hx (by rw [hv, List.length_map, hn]) (fun v hv' => ?_) hm (fun A w' h1 h2 => hk A w' ?_ h2) ht hg hd
  · rw [hv] at hv'
    obtain ⟨z, _, rfl⟩ := List.mem_map.1 hv'
    rfl
  · have e : (zs.map (Value.int .i64)).flatMap (fun v => v.cells.toList) = zs.map (Value.int .i64) := by
      clear h1 hk hm hx hv hn hps hxs
      induction zs with
      | nil => rfl
      | cons d L ih => rw [List.map_cons, List.flatMap_cons, ih]; rfl
    rw [hv, e] at h1
    subst hn
    exact h1
end

section
variable {fn : Func} {F : Ending → World → Prop} {N : Nat} {ks : List K} {ops : Array Oper} {tg : Tags} {l : List Oper} {fr : Fr} {w : World} {ty : TypeId} {pos : String} {aft : Array Edge} {gd : Option (Nat × Bool)} {d : Nat} {x y : Operand} {A : Option Addr}
--@ rule slice l wl_slhiZ
theorem wl_slhiZ {L : List Int} {len cap : Nat} (hi : Nat) {kh : IntKind} {h : Int} (hx : fr.ev x = some (.slice A len cap)) (hz : fr.ev y = some (.int kh h)) (hr : RZ w A L) (hlen : len = L.length) (hh : h = (hi : Int)) (h2 : hi ≤ len) (h3 : len ≤ cap)
    (hk : RZ w A (L.take hi) → WL Tryd.prog fn F N ks ops tg.tail l ((d, .slice A hi cap) :: fr) w) (hg : onG ops fr gd = true := by rfl) (hd : Nat.blt d N = true := by rfl) :
    WL Tryd.prog fn F N ks ops tg (⟨some d, .slice 35 x none (some y) none, ty, pos, aft, gd⟩ :: l) fr w :=
  wl_p (fun _ => o_slice_hi Tryd.underlying35 Tryd.sizeOf3 hx hz hh (by omega)) (hk (by
    unfold RZ at hr ⊢
    have := Reads.taken hr (k := hi) (by omega)
    rw [Nat.mul_one, ← List.map_take] at this
    rw [List.length_take, Nat.min_eq_left (by omega)]
    exact this)) hg hd
end
end Go.Proofs.YtklijaahbahcoaaDoor
/-
  Numbers of 64 bits, and arrays in blocks of their own. No function of the program is named here.
-/
namespace Go.Proofs.YtklijaahbahcoaaDoor
set_option maxRecDepth 100000
open Go.RowKit
section
variable {P : Program} {fn : Func} {F : Ending → World → Prop} {N : Nat} {ks : List K} {ops : Array Oper} {tg : Tags} {l : List Oper} {fr : Fr} {w : World} {ty ty2 t t' t2 e e2 : TypeId} {z v : Value} {pos pos2 : String} {aft aft2 : Array Edge} {gd gd2 : Option (Nat × Bool)} {d n g i j sz : Nat} {x y : Operand} {a b : UInt64} {k k' : IntKind} {m : Int}
/-! Numbers. -/
theorem u64_lt (a : UInt64) : a.toNat < 18446744073709551616 := a.toNat_lt
theorem o_addU (hx : fr.ev x = some (.int .u64 (a.toNat : Int))) (hy : fr.ev y = some (.int .u64 (b.toNat : Int))) : OpV P N fr w (.binOp .add t x y t') ty (.int .u64 ((a + b).toNat : Int)) w :=
  o_asi (o_addw hx hy) (by rw [IntKind.wrap_u64, UInt64.toNat_add]; omega)
theorem o_addq {n' : Int} (hx : fr.ev x = some (.int .u64 m)) (hy : fr.ev y = some (.int .u64 n')) (h0 : 0 ≤ m + n') (h1 : m + n' ≤ 18446744073709551615) : OpV P N fr w (.binOp .add t x y t') ty (.int .u64 (m + n')) w :=
  o_asi (o_addw hx hy) (u64_in h0 h1)
theorem o_subq {n' : Int} (hx : fr.ev x = some (.int .u64 m)) (hy : fr.ev y = some (.int .u64 n')) (h0 : 0 ≤ m - n') (h1 : m - n' ≤ 18446744073709551615) : OpV P N fr w (.binOp .sub t x y t') ty (.int .u64 (m - n')) w :=
  o_asi (o_subw hx hy) (u64_in h0 h1)
theorem o_mulq {n' : Int} (hx : fr.ev x = some (.int .u64 m)) (hy : fr.ev y = some (.int .u64 n')) (h0 : 0 ≤ m * n') (h1 : m * n' ≤ 18446744073709551615) : OpV P N fr w (.binOp .mul t x y t') ty (.int .u64 (m * n')) w :=
  o_asi (o_mulw hx hy) (u64_in h0 h1)
theorem o_xorU (hx : fr.ev x = some (.int .u64 (a.toNat : Int))) (hy : fr.ev y = some (.int .u64 (b.toNat : Int))) : OpV P N fr w (.binOp .xor t x y t') ty (.int .u64 ((a ^^^ b).toNat : Int)) w :=
  o_asi (o_xor hx hy) (by rw [bits_xor_u64_nat _ _ (u64_lt a) (u64_lt b), UInt64.toNat_xor])
theorem o_andU (hx : fr.ev x = some (.int .u64 (a.toNat : Int))) (hy : fr.ev y = some (.int .u64 (b.toNat : Int))) : OpV P N fr w (.binOp .and t x y t') ty (.int .u64 ((a &&& b).toNat : Int)) w :=
  o_asi (o_and hx hy) (by rw [bits_and_u64_nat _ _ (u64_lt a) (u64_lt b), UInt64.toNat_and])
theorem o_orU (hx : fr.ev x = some (.int .u64 (a.toNat : Int))) (hy : fr.ev y = some (.int .u64 (b.toNat : Int))) : OpV P N fr w (.binOp .or t x y t') ty (.int .u64 ((a ||| b).toNat : Int)) w :=
  o_asi (o_or hx hy) (by rw [bits_or_u64_nat _ _ (u64_lt a) (u64_lt b), UInt64.toNat_or])
theorem o_notU (hx : fr.ev x = some (.int .u64 (a.toNat : Int))) : OpV P N fr w (.unOp .xor t x) ty (.int .u64 ((~~~a).toNat : Int)) w := fun c ha o ho _ => by
  have h := u64_lt a
  have e : bits .xor .u64 18446744073709551615 (a.toNat : Int) = ((~~~a).toNat : Int) := by
    have h1 : (BitVec.ofInt 64 (a.toNat : Int)) = a.toBitVec := by
      rw [BitVec.ofInt_natCast]; apply BitVec.eq_of_toNat_eq; rw [BitVec.toNat_ofNat, Nat.mod_eq_of_lt (by omega)]; rfl
    show IntKind.u64.wrap ((BitVec.ofInt 64 18446744073709551615 ^^^ BitVec.ofInt 64 (a.toNat : Int)).toNat : Int) = _
    rw [h1, show BitVec.ofInt 64 18446744073709551615 = BitVec.allOnes 64 from rfl, BitVec.allOnes_xor, ← UInt64.toBitVec_not]
    show IntKind.u64.wrap (((~~~a).toNat : Nat) : Int) = _
    have := u64_lt (~~~a)
    rw [IntKind.wrap_u64]; omega
  have e2 : (execOp c.eval o).run P w = .ok (.value (.int .u64 (bits .xor .u64 18446744073709551615 (a.toNat : Int)))) w := by
    simp [execOp, ho, ha.ev hx, Op.unary]
    rfl
  rw [e2, e]
def shrU (a : UInt64) (n : Nat) : UInt64 := a >>> UInt64.ofNat n
def shlU (a : UInt64) (n : Nat) : UInt64 := a <<< UInt64.ofNat n
theorem shrU_toNat (a : UInt64) {n : Nat} (h : n < 64) : (shrU a n).toNat = a.toNat / 2 ^ n := by
  unfold shrU
  rw [UInt64.toNat_shiftRight, UInt64.toNat_ofNat_of_lt' (by show n < 18446744073709551616; omega), Nat.mod_eq_of_lt h, Nat.shiftRight_eq_div_pow]
theorem shlU_toNat (a : UInt64) {n : Nat} (h : n < 64) : (shlU a n).toNat = a.toNat * 2 ^ n % 18446744073709551616 := by
  unfold shlU
  rw [UInt64.toNat_shiftLeft, UInt64.toNat_ofNat_of_lt' (by show n < 18446744073709551616; omega), Nat.mod_eq_of_lt h, Nat.shiftLeft_eq]
theorem o_shrU (hx : fr.ev x = some (.int .u64 (a.toNat : Int))) (hy : fr.ev y = some (.int k' m)) (h0 : 0 ≤ m) (h1 : m < 64) : OpV P N fr w (.binOp .shr t x y t') ty (.int .u64 ((shrU a m.toNat).toNat : Int)) w :=
  o_asi (o_shr hx hy h0) (by
    rw [shrU_toNat a (by omega), show min m.toNat IntKind.u64.bits = m.toNat by show min m.toNat 64 = _; omega]
    simp)
theorem o_shlU (hx : fr.ev x = some (.int .u64 (a.toNat : Int))) (hy : fr.ev y = some (.int k' m)) (h0 : 0 ≤ m) (h1 : m < 64) : OpV P N fr w (.binOp .shl t x y t') ty (.int .u64 ((shlU a m.toNat).toNat : Int)) w :=
  o_asi (o_shl hx hy h0) (by
    rw [shlU_toNat a (by omega), show min m.toNat IntKind.u64.bits = m.toNat by show min m.toNat 64 = _; omega, IntKind.wrap_u64]
    simp)
theorem o_conv8U {c : UInt8} {dd : TypeDesc} {src dst : TypeId} (hs : P.underlying src = some dd) (hd : P.underlying dst = some (.int .u64)) (hx : fr.ev x = some (.int .u8 (c.toNat : Int))) : OpV P N fr w (.convert src dst x) ty (.int .u64 (c.toUInt64.toNat : Int)) w :=
  o_asi (o_convi hs hd hx) (by have := c.toNat_lt; rw [IntKind.wrap_u64, UInt8.toNat_toUInt64]; omega)
theorem o_convU8 {dd : TypeDesc} {src dst : TypeId} (hs : P.underlying src = some dd) (hd : P.underlying dst = some (.int .u8)) (hx : fr.ev x = some (.int .u64 (a.toNat : Int))) : OpV P N fr w (.convert src dst x) ty (.int .u8 (a.toUInt8.toNat : Int)) w :=
  o_asi (o_convi hs hd hx) (by rw [UInt64.toNat_toUInt8]; show (a.toNat : Int) % 256 = _; omega)

/-! Arrays. -/
def vU (l : List UInt64) : List Value := l.map fun x => .int .u64 (x.toNat : Int)
theorem vU_length (l : List UInt64) : (vU l).length = l.length := List.length_map ..
theorem vU_one (l : List UInt64) : ∀ v ∈ vU l, v.oneCell' = true := fun v h => by
  obtain ⟨x, _, rfl⟩ := List.mem_map.1 h; rfl
theorem vU_set (l : List UInt64) (i : Nat) (a : UInt64) : (vU l).set i (.int .u64 (a.toNat : Int)) = vU (l.set i a) := by
  unfold vU; rw [List.map_set]
--@ rule indexAddr p o_iaddrP
theorem o_iaddrP (j : Nat) (hu : P.underlying t = some (.array n e)) (hs : ∀ w, (sizeOf e).run P w = .ok 1 w) (hx : fr.ev x = some (.pointer (some ⟨g, 0, none⟩))) (hy : fr.ev y = some (.int k m)) (hm : m = (j : Int)) (hj : j < n) :
    OpV P N fr w (.indexAddr t x y) ty (.pointer (some ⟨g, j, none⟩)) w := fun a ha op hop _ => by
  subst hm
  have h2 : ¬ n ≤ j := by omega
  simp [execOp, hop, ha.ev hx, ha.ev hy, Instr.indexAt, run_underlying hu, asIntOf, hs, add_plain, Instr.sureAddr, h2]
--@ rule load r o_ldU
theorem o_ldU {l : List UInt64} (ha' : ∀ w, (isAgg t).run P w = .ok false w) (hx : fr.ev x = some (.pointer (some ⟨g, i, none⟩))) (hB : Blk w g t' (vU l)) (hi : i < l.length) : OpV P N fr w (.load t x) ty (.int .u64 (l[i].toNat : Int)) w :=
  o_loadb ha' hx hB (by unfold vU; rw [List.getElem?_map, List.getElem?_eq_getElem hi]; rfl)
--@ rule load r o_ldUa
theorem o_ldUa {l : List UInt64} (ha' : ∀ w, (isAgg t).run P w = .ok true w) (hs : ∀ w, (sizeOf t).run P w = .ok n w) (hx : fr.ev x = some (.pointer (some ⟨g, 0, none⟩))) (hB : Blk w g t' (vU l)) (hn : l.length = n) : OpV P N fr w (.load t x) ty (.agg (vU l).toArray) w :=
  o_load_all ha' hs hx hB (by rw [vU_length, hn])
--@ rule load r o_ldB
theorem o_ldB {l : List UInt8} (ha' : ∀ w, (isAgg t).run P w = .ok false w) (hx : fr.ev x = some (.pointer (some ⟨g, i, none⟩))) (hB : Blk w g t' (B8 l)) (hi : i < l.length) : OpV P N fr w (.load t x) ty (.int .u8 (l[i].toNat : Int)) w :=
  o_loadb ha' hx hB (by unfold B8; simp [hi])
--@ rule load r o_ldBa
theorem o_ldBa {l : List UInt8} (ha' : ∀ w, (isAgg t).run P w = .ok true w) (hs : ∀ w, (sizeOf t).run P w = .ok n w) (hx : fr.ev x = some (.pointer (some ⟨g, 0, none⟩))) (hB : Blk w g t' (B8 l)) (hn : l.length = n) : OpV P N fr w (.load t x) ty (.agg (B8 l).toArray) w :=
  o_load_all ha' hs hx hB (by rw [B8_length, hn])
--@ rule store l wl_stU
theorem wl_stU {c : List UInt64} (hs : ∀ w, (sizeOf t).run P w = .ok 1 w) (hx : fr.ev x = some (.pointer (some ⟨g, i, none⟩))) (hB : Blk w g t' (vU c)) (hy : fr.ev y = some (.int .u64 (a.toNat : Int))) (hi : i < c.length)
    (hk : ∀ w', Blk w' g t' (vU (c.set i a)) → Grew w w' t' (some g) → w'.heap.size = w.heap.size → WL P fn F N ks ops tg.tail l fr w') (ht : tg.loud = true := by rfl) (hg : onG ops fr gd = true := by rfl) (hq : tg.calm = false ∨ tg.rw.may (some g) := by exact .inl rfl) :
    WL P fn F N ks ops tg (⟨none, .store t x y, ty, pos, aft, gd⟩ :: l) fr w :=
  wl_storeg1 hs hx hy rfl hB (by rw [vU_length]; exact hi) (fun w' h1 h2 h3 => hk w' (by rw [vU_set] at h1; exact h1) h2 h3) ht hg hq
--@ rule store l wl_stUa
theorem wl_stUa {c q : List UInt64} (hs : ∀ w, (sizeOf t).run P w = .ok n w) (hx : fr.ev x = some (.pointer (some ⟨g, 0, none⟩))) (hB : Blk w g t' (vU c)) (hy : fr.ev y = some (.agg (vU q).toArray)) (hq' : q.length = n) (hi : c.length = n)
    (hk : ∀ w', Blk w' g t' (vU q) → Grew w w' t' (some g) → w'.heap.size = w.heap.size → WL P fn F N ks ops tg.tail l fr w') (ht : tg.loud = true := by rfl) (hg : onG ops fr gd = true := by rfl) (hq : tg.calm = false ∨ tg.rw.may (some g) := by exact .inl rfl) :
    WL P fn F N ks ops tg (⟨none, .store t x y, ty, pos, aft, gd⟩ :: l) fr w :=
  wl_storega hs hx hy (by rw [vU_length, hq']) (vU_one q) hB (by rw [vU_length, hi]) hk ht hg hq
--@ rule store l wl_stB
theorem wl_stB {c : List UInt8} {u : UInt8} (hs : ∀ w, (sizeOf t).run P w = .ok 1 w) (hx : fr.ev x = some (.pointer (some ⟨g, i, none⟩))) (hB : Blk w g t' (B8 c)) (hy : fr.ev y = some (.int .u8 (u.toNat : Int))) (hi : i < c.length)
    (hk : ∀ w', Blk w' g t' (B8 (c.set i u)) → Grew w w' t' (some g) → w'.heap.size = w.heap.size → WL P fn F N ks ops tg.tail l fr w') (ht : tg.loud = true := by rfl) (hg : onG ops fr gd = true := by rfl) (hq : tg.calm = false ∨ tg.rw.may (some g) := by exact .inl rfl) :
    WL P fn F N ks ops tg (⟨none, .store t x y, ty, pos, aft, gd⟩ :: l) fr w :=
  wl_storeg1 hs hx hy rfl hB (by rw [B8_length]; exact hi) (fun w' h1 h2 h3 => hk w' (by unfold B8 at h1 ⊢; rw [List.map_set]; exact h1) h2 h3) ht hg hq
--@ rule store l wl_stBa
theorem wl_stBa {c q : List UInt8} (hs : ∀ w, (sizeOf t).run P w = .ok n w) (hx : fr.ev x = some (.pointer (some ⟨g, 0, none⟩))) (hB : Blk w g t' (B8 c)) (hy : fr.ev y = some (.agg (B8 q).toArray)) (hq' : q.length = n) (hi : c.length = n)
    (hk : ∀ w', Blk w' g t' (B8 q) → Grew w w' t' (some g) → w'.heap.size = w.heap.size → WL P fn F N ks ops tg.tail l fr w') (ht : tg.loud = true := by rfl) (hg : onG ops fr gd = true := by rfl) (hq : tg.calm = false ∨ tg.rw.may (some g) := by exact .inl rfl) :
    WL P fn F N ks ops tg (⟨none, .store t x y, ty, pos, aft, gd⟩ :: l) fr w :=
  wl_storega hs hx hy (by rw [B8_length, hq']) (B8_oneCell' q) hB (by rw [B8_length, hi]) hk ht hg hq
--@ rule alloc l wl_allocstU
theorem wl_allocstU {q : List UInt64} (hu : P.underlying e = some (.array n e2)) (hz : ∀ w, (zeroValue e).run P w = .ok z w) (hzs : z.cells = (vU (List.replicate n 0)).toArray) (hs : ∀ w, (sizeOf t).run P w = .ok n w) (hy : ∀ u, Fr.ev ((d, u) :: fr) y = some (.agg (vU q).toArray)) (hn : q.length = n)
    (hk : ∀ g w', Blk w' g e (vU q) → Below w.heap.size w w' → w.heap.size ≤ g → g < w'.heap.size → WL P fn F N ks ops tg.tail.tail l ((d, .pointer (some ⟨g, 0, none⟩)) :: fr) w')
    (ht : tg.loud = true := by rfl) (ht2 : tg.tail.loud = true := by rfl) (hg : onG ops fr gd = true := by rfl) (hg2 : ∀ u, onG ops ((d, u) :: fr) gd2 = true := by intro _; rfl) (hd : Nat.blt d N = true := by rfl) (hq : tg.tail.calm = false := by rfl) :
    WL P fn F N ks ops tg (⟨some d, .alloc e, ty, pos, aft, gd⟩ :: ⟨none, .store t (.tmp d) y, ty2, pos2, aft2, gd2⟩ :: l) fr w :=
  wl_allocstn hz _ _ hzs hs hy (by rw [vU_length, List.length_replicate]) (by rw [vU_length, hn]) (vU_one q) hk ht ht2 hg hg2 hd hq
--@ rule alloc l wl_allocstB
theorem wl_allocstB {q : List UInt8} (hu : P.underlying e = some (.array n e2)) (hz : ∀ w, (zeroValue e).run P w = .ok z w) (hzs : z.cells = (B8 (List.replicate n 0)).toArray) (hs : ∀ w, (sizeOf t).run P w = .ok n w) (hy : ∀ u, Fr.ev ((d, u) :: fr) y = some (.agg (B8 q).toArray)) (hn : q.length = n)
    (hk : ∀ g w', Blk w' g e (B8 q) → Below w.heap.size w w' → w.heap.size ≤ g → g < w'.heap.size → WL P fn F N ks ops tg.tail.tail l ((d, .pointer (some ⟨g, 0, none⟩)) :: fr) w')
    (ht : tg.loud = true := by rfl) (ht2 : tg.tail.loud = true := by rfl) (hg : onG ops fr gd = true := by rfl) (hg2 : ∀ u, onG ops ((d, u) :: fr) gd2 = true := by intro _; rfl) (hd : Nat.blt d N = true := by rfl) (hq : tg.tail.calm = false := by rfl) :
    WL P fn F N ks ops tg (⟨some d, .alloc e, ty, pos, aft, gd⟩ :: ⟨none, .store t (.tmp d) y, ty2, pos2, aft2, gd2⟩ :: l) fr w :=
  wl_allocstn hz _ _ hzs hs hy (by rw [B8_length, List.length_replicate]) (by rw [B8_length, hn]) (B8_oneCell' q) hk ht ht2 hg hg2 hd hq
--@ rule alloc l wl_allocU
theorem wl_allocU (hu : P.underlying e = some (.array n e2)) (hz : ∀ w, (zeroValue e).run P w = .ok z w) (hzs : z.cells = (vU (List.replicate n 0)).toArray)
    (hk : ∀ g w', Blk w' g e (vU (List.replicate n 0)) → Below w.heap.size w w' → w.heap.size ≤ g → g < w'.heap.size → WL P fn F N ks ops tg.tail l ((d, .pointer (some ⟨g, 0, none⟩)) :: fr) w')
    (ht : tg.loud = true := by rfl) (hg : onG ops fr gd = true := by rfl) (hd : Nat.blt d N = true := by rfl) : WL P fn F N ks ops tg (⟨some d, .alloc e, ty, pos, aft, gd⟩ :: l) fr w :=
  wl_allocg _ hz hzs hk ht hg hd
--@ rule alloc l wl_allocB
theorem wl_allocB (hu : P.underlying e = some (.array n e2)) (hz : ∀ w, (zeroValue e).run P w = .ok z w) (hzs : z.cells = (B8 (List.replicate n 0)).toArray)
    (hk : ∀ g w', Blk w' g e (B8 (List.replicate n 0)) → Below w.heap.size w w' → w.heap.size ≤ g → g < w'.heap.size → WL P fn F N ks ops tg.tail l ((d, .pointer (some ⟨g, 0, none⟩)) :: fr) w')
    (ht : tg.loud = true := by rfl) (hg : onG ops fr gd = true := by rfl) (hd : Nat.blt d N = true := by rfl) : WL P fn F N ks ops tg (⟨some d, .alloc e, ty, pos, aft, gd⟩ :: l) fr w :=
  wl_allocg _ hz hzs hk ht hg hd
--@ rule index p o_indexU
theorem o_indexU {c : List UInt64} (j : Nat) (hu : P.underlying t = some (.array n e)) (hs : ∀ w, (sizeOf e).run P w = .ok 1 w) (ha' : ∀ w, (isAgg e).run P w = .ok false w) (hx : fr.ev x = some (.agg (vU c).toArray)) (hy : fr.ev y = some (.int k m)) (hm : m = (j : Int)) (hj : j < c.length) (hn : c.length = n) :
    OpV P N fr w (.index t x y) ty (.int .u64 (c[j].toNat : Int)) w := fun a ha op hop _ => by
  subst hm
  have h2 : ¬ n ≤ j := by omega
  simp [execOp, hop, ha.ev hx, ha.ev hy, Instr.index, run_underlying hu, asIntOf, hs, _root_.Go.part, ha', h2, vU, hj]
--@ rule index p o_indexB
theorem o_indexB {c : List UInt8} (j : Nat) (hu : P.underlying t = some (.array n e)) (hs : ∀ w, (sizeOf e).run P w = .ok 1 w) (ha' : ∀ w, (isAgg e).run P w = .ok false w) (hx : fr.ev x = some (.agg (B8 c).toArray)) (hy : fr.ev y = some (.int k m)) (hm : m = (j : Int)) (hj : j < c.length) (hn : c.length = n) :
    OpV P N fr w (.index t x y) ty (.int .u8 (c[j].toNat : Int)) w := fun a ha op hop _ => by
  subst hm
  have h2 : ¬ n ≤ j := by omega
  simp [execOp, hop, ha.ev hx, ha.ev hy, Instr.index, run_underlying hu, asIntOf, hs, _root_.Go.part, ha', h2, B8, hj]
--@ rule build p o_buildU
theorem o_buildU {ps : Array (Nat × Operand)} {is : List Nat} {xs : List Operand} {vs : List Value} (c : List UInt64) (hu : P.underlying t = some (.array n e)) (his : ps.toList.map Prod.fst = is) (hxs : ps.toList.map Prod.snd = xs) (hx : fr.evs xs = some vs) (hv : vs = c.map fun x => Value.int .u64 (x.toNat : Int)) (hn : c.length = n)
    (hps : ps = (is.zip xs).toArray) (hr : ∀ w, (Instr.build t (is.zip vs).toArray).run P w = .ok (.agg (vU c).toArray) w) : OpV P N fr w (.build t ps) ty (.agg (vU c).toArray) w := by
  subst hps
  exact o_build hx hr
end
end Go.Proofs.YtklijaahbahcoaaDoor
/-
  Arrays of bytes: sliced as a whole, made of slices. No function of the program is named here.
-/
namespace Go.Proofs.YtklijaahbahcoaaDoor
set_option maxRecDepth 100000
open Go.RowKit
section
variable {P : Program} {fn : Func} {F : Ending → World → Prop} {N : Nat} {ks : List K} {ops : Array Oper} {tg : Tags} {l : List Oper} {fr : Fr} {w : World} {ty t t' : TypeId} {pos : String} {aft : Array Edge} {gd : Option (Nat × Bool)} {d n m g c j lo hi : Nat} {x y : Operand} {A : Option Addr} {b : List UInt8} {ad : Addr}
theorem o_slArrW (hu : P.underlying t = some (.array n 5)) (hs : ∀ w, (sizeOf 5).run P w = .ok 1 w) (hx : fr.ev x = some (.pointer (some ad))) : OpV P N fr w (.slice t x none none none) ty (.slice (some ad) n n) w := by
  intro a ha op hop _
  have e : ad.add 0 = ad := by cases ad; simp [Addr.add]
  simp [execOp, hop, ha.ev hx, Instr.sliceAt, Instr.sureAddr, run_underlying hu, Instr.sliceBounds, Instr.sliceBound, asIntOf, hs, e]
--@ rule slice l wl_slArrB
/-- a[:], of a variable -/
theorem wl_slArrB (hu : P.underlying t = some (.array n 5)) (hs : ∀ w, (sizeOf 5).run P w = .ok 1 w) (hx : fr.ev x = some (.pointer (some ⟨g, 0, none⟩))) (hB : Blk w g t' (B8 b))
    (hk : RdB w g (g + 1) (some ⟨g, 0, none⟩) b → WL P fn F N ks ops tg.tail l ((d, .slice (some ⟨g, 0, none⟩) n n) :: fr) w) (hg : onG ops fr gd = true := by rfl) (hd : Nat.blt d N = true := by rfl) :
    WL P fn F N ks ops tg (⟨some d, .slice t x none none none, ty, pos, aft, gd⟩ :: l) fr w :=
  wl_p (fun _ => o_slArrW hu hs hx) (hk hB.rdB) hg hd
/-- [n]byte(s) -/
theorem o_ldSlArr (ha' : ∀ w, (isAgg t).run P w = .ok true w) (hs : ∀ w, (sizeOf t).run P w = .ok n w) (hx : fr.ev x = some (.pointer A)) (hr : Rd w A b) (hl : b.length = n) (h0 : 0 < n) : OpV P N fr w (.load t x) ty (.agg (B8 b).toArray) w := by
  obtain ⟨k, o, rfl, hc⟩ := hr.2 (fun e => by have := congrArg List.length e; rw [B8_length, hl, List.length_nil] at this; omega)
  exact o_loadn (cs := B8 b) ha' (by rw [B8_length, hl]; exact hs) hx (fun i u hu => by rw [add_plain]; exact hc i u hu)
end
end Go.Proofs.YtklijaahbahcoaaDoor
/-
  A disk in memory; walks of its methods.
-/
namespace Go.Proofs.YtklijaahbahcoaaDoor
set_option maxRecDepth 100000
open Go.RowKit
/-- Sectors of the call's own. -/
def OwnSec (w : World) (lo hi : Nat) (A : Option Addr) (c : Nat) (S : List Sec) : Prop := OwnS (gArr 256) 67 w lo hi A c S
section
variable {w w' : World} {lo hi lo' hi' cp b : Nat} {A : Option Addr} {S : List Sec} {e' : TypeId} {row : Option Nat}
theorem gArr_tys (n : Nat) : (gArr n).tys = [] := rfl
theorem OwnSec.u (h : OwnSec w lo hi A cp S) (hb : Below w.heap.size w w') : OwnSec w' lo hi A cp S := OwnS.u h hb
theorem OwnSec.d (h : OwnSec w lo hi A cp S) : OwnSec w.drew lo hi A cp S := OwnS.d h
theorem OwnSec.y (h : OwnSec w lo hi A cp S) (hg : Grew w w' e' row) (hne : e' ∉ [67]) : OwnSec w' lo hi A cp S := OwnS.y h hg hne
theorem OwnSec.q (h : OwnSec w lo hi A cp S) (hg : Grew w w' e' row) (ha : Ap row lo hi) (hne : e' ∉ []) : OwnSec w' lo hi A cp S := OwnS.q h hg ha hne
theorem OwnSec.m (h : OwnSec w lo hi A cp S) (hg : GrewM w w' b) : OwnSec w' lo hi A cp S := OwnS.m h hg
theorem OwnSec.ap (h : OwnSec w lo hi A cp S) (hd : hi ≤ lo' ∨ hi' ≤ lo) : Ap (blk A) lo' hi' := OwnS.ap h hd
theorem OwnSec.cap (h : OwnSec w lo hi A cp S) : S.length ≤ cp := OwnS.cap h
theorem OwnSec.base (h : OwnSec w lo hi A cp S) (h1 : lo' ≤ lo) (h2 : hi ≤ hi') : OwnSec w lo' hi' A cp S := OwnS.base h h1 h2
theorem OwnSec.c (h : OwnSec w lo hi A cp S) (hc : Chg lo' hi' w w') (ha : hi ≤ lo' ∨ hi' ≤ lo) : OwnSec w' lo hi A cp S := OwnS.c0 h (fun h => h) hc ha
theorem OwnSec.cells (h : OwnSec w lo hi A cp S) {j : Nat} (hj : j < S.length) : CellsAt w A (j * 256) (B8 S[j].1) := by
  obtain ⟨cs, h1, h2⟩ := RSl.elem (OwnS.to_RSl h) (show 0 < 256 by decide) hj
  obtain ⟨rfl⟩ : cs = B8 S[j].1 := h2
  exact h1
theorem OwnSec.rng (h : OwnSec w lo hi A cp S) : ∀ k, blk A = some k → lo ≤ k ∧ k < hi := by obtain ⟨xs, h1, _⟩ := h; exact fun k hk => ⟨(RowH.lt h1 k hk).1, h1.hi k hk⟩
theorem OwnSec.some_ (h : OwnSec w lo hi A cp S) (hl : 0 < S.length) : A = some (A.getD ⟨0, 0, none⟩) := RSl.some_ (OwnS.to_RSl h) (show 0 < 256 by decide) hl
end
theorem gSec_one (w : World) (cs : List Value) (s : Sec) (h : (gArr 256).T w cs s) : ∀ u ∈ cs, u.oneCell' = true := by
  obtain ⟨rfl⟩ : cs = B8 s.1 := h
  exact B8_oneCell _
theorem Tryd.rowSec : RowT Tryd.prog 61 67 (vS z256) 256 256 := ⟨Tryd.underlying61, by
  have h : (Tryd.prog.info? 67).map (fun i => (i.zero, i.size, i.bytes)) = some (some (.agg (List.replicate 256 (.int .u8 0)).toArray), 256, 256) := by kernel_rfl
  rw [h]
  show _ = some (some (Value.agg (B8 (List.replicate 256 0)).toArray), 256, 256)
  rw [B8_rep], by rw [show (vS z256).cells.size = (B8 z256.1).length from rfl, B8_length, z256.2], by omega⟩
section
variable {fn : Func} {F : Ending → World → Prop} {N : Nat} {ks : List K} {ops : Array Oper} {tg : Tags} {l : List Oper} {fr : Fr} {w : World} {ty : TypeId} {pos : String} {aft : Array Edge} {gd : Option (Nat × Bool)} {k1 k2 : IntKind} {d n j c lo hi : Nat} {x y : Operand} {A : Option Addr} {S : List Sec} {s : Sec}
--@ rule load r o_ldSec
theorem o_ldSec (hx : fr.ev x = some (.pointer (some (adr A (j * 256))))) (hr : OwnSec w lo hi A c S) (hj : j < S.length) : OpV Tryd.prog N fr w (.load 67 x) ty (vS S[j]) w :=
  o_loadn (cs := B8 S[j].1) Tryd.isAgg67 (by rw [B8_length, S[j].2]; exact Tryd.sizeOf67) hx (fun i u hu => by rw [adr_add]; exact hr.cells hj i u hu)
--@ rule store l wl_stSec
theorem wl_stSec (hx : fr.ev x = some (.pointer (some (adr A (j * 256))))) (hown : OwnSec w lo hi A c S) (hy : fr.ev y = some (vS s)) (hj : j < S.length)
    (hk : ∀ w', OwnSec w' lo hi A c (S.set j s) → Grew w w' 67 (blk A) → Below lo w w' → w'.heap.size = w.heap.size → WL Tryd.prog fn F N ks ops tg.tail l fr w') (ht : tg.loud = true := by rfl) (hg : onG ops fr gd = true := by rfl) (hq : tg.calm = false ∨ tg.rw.may (blk A) := by exact .inl rfl) :
    WL Tryd.prog fn F N ks ops tg (⟨none, .store 67 x y, ty, pos, aft, gd⟩ :: l) fr w :=
  wl_stS (X := gArr 256) Tryd.sizeOf67 hx hy rfl hown hj rfl (B8_oneCell _) (by decide) (by simp [gArr_tys]) hk ht hg hq
--@ rule makeSlice l wl_mkSec
theorem wl_mkSec {E C : Int} (n : Nat) (hx : fr.ev x = some (.int k1 E)) (hy : fr.ev y = some (.int k2 C)) (hE : E = (n : Int)) (hC : C = (n : Int)) (hn : n ≤ 1000000)
    (hk : ∀ A w', OwnSec w' w.heap.size w'.heap.size A n (List.replicate n z256) → Below w.heap.size w w' → WL Tryd.prog fn F N ks ops tg.tail l ((d, .slice A n n) :: fr) w')
    (ht : tg.loud = true := by rfl) (hg : onG ops fr gd = true := by rfl) (hd : Nat.blt d N = true := by rfl) : WL Tryd.prog fn F N ks ops tg (⟨some d, .makeSlice 61 x y, ty, pos, aft, gd⟩ :: l) fr w :=
  wl_mkS (X := gArr 256) Tryd.rowSec hx hy hE hC (by omega) (by omega) (fun _ => rfl) hk ht hg hd
end
section
variable {fn : Func} {F : Ending → World → Prop} {N : Nat} {ks : List K} {ops : Array Oper} {tg : Tags} {l : List Oper} {fr : Fr} {w : World} {ty t' : TypeId} {pos : String} {aft : Array Edge} {gd : Option (Nat × Bool)} {d g : Nat} {x y : Operand} {s q : Sec}
--@ rule alloc l wl_allocSec
theorem wl_allocSec (hk : ∀ g w', Blk w' g 67 (B8 z256.1) → Below w.heap.size w w' → w.heap.size ≤ g → g < w'.heap.size → WL Tryd.prog fn F N ks ops tg.tail l ((d, .pointer (some ⟨g, 0, none⟩)) :: fr) w')
    (ht : tg.loud = true := by rfl) (hg : onG ops fr gd = true := by rfl) (hd : Nat.blt d N = true := by rfl) : WL Tryd.prog fn F N ks ops tg (⟨some d, .alloc 67, ty, pos, aft, gd⟩ :: l) fr w :=
  wl_allocg _ Tryd.zeroSec rfl hk ht hg hd
--@ rule store l wl_stSecB
theorem wl_stSecB (hx : fr.ev x = some (.pointer (some ⟨g, 0, none⟩))) (hB : Blk w g t' (B8 q.1)) (hy : fr.ev y = some (vS s))
    (hk : ∀ w', Blk w' g t' (B8 s.1) → Grew w w' t' (some g) → w'.heap.size = w.heap.size → WL Tryd.prog fn F N ks ops tg.tail l fr w') (ht : tg.loud = true := by rfl) (hg : onG ops fr gd = true := by rfl) (hq : tg.calm = false ∨ tg.rw.may (some g) := by exact .inl rfl) :
    WL Tryd.prog fn F N ks ops tg (⟨none, .store 67 x y, ty, pos, aft, gd⟩ :: l) fr w :=
  wl_storega Tryd.sizeOf67 hx hy (by rw [B8_length, s.2]) (B8_oneCell _) hB (by rw [B8_length, q.2]) hk ht hg hq
--@ rule load r o_ldSecSl
theorem o_ldSecSl {N : Nat} {b : By} {A : Option Addr} (hx : fr.ev x = some (.pointer A)) (hr : Rd w A b) (hl : b.length = 256) : OpV Tryd.prog N fr w (.load 67 x) ty (vS ⟨b, hl⟩) w := o_ldSlArr Tryd.isAgg67 Tryd.sizeOf67 hx hr hl (by omega)
end
/-- A disk in the blocks from lo to hi: what is on it, what is cached. -/
structure DkAt (w : World) (lo hi g : Nat) (S : List Sec) (C : List (Option Sec)) : Prop where
  ex : ∃ (A : Option Addr) (c b : Nat), Blk w g 70 [.pointer (some ⟨g, 0, none⟩), .slice A S.length c, .map (some b)] ∧ OwnSec w lo hi A c S ∧ MapS w b C ∧ lo ≤ b ∧ b < hi ∧ b ≠ g
  g1 : lo ≤ g
  g2 : g < hi
  hi : hi ≤ w.heap.size
  len : C.length = S.length
  n1 : 1 ≤ S.length
  n2 : S.length ≤ 16384
section
variable {w w' : World} {lo hi lo' hi' g : Nat} {S : List Sec} {C : List (Option Sec)}
theorem DkAt.u (h : DkAt w lo hi g S C) (hb : Below w.heap.size w w') : DkAt w' lo hi g S C := by
  obtain ⟨A, c, b, h1, h2, h3, h4⟩ := h.ex
  exact ⟨⟨A, c, b, h1.u hb, h2.u hb, h3.u hb, h4⟩, h.g1, h.g2, by have := h.hi; have := hb.size; omega, h.len, h.n1, h.n2⟩
theorem DkAt.d (h : DkAt w lo hi g S C) : DkAt w.drew lo hi g S C := h.u (below_drew w)
theorem DkAt.c (h : DkAt w lo hi g S C) (hc : Chg lo' hi' w w') (ha : hi ≤ lo' ∨ hi' ≤ lo) : DkAt w' lo hi g S C := by
  obtain ⟨A, c, b, h1, h2, h3, h4, h5, h6⟩ := h.ex
  have := h.g1
  have := h.g2
  exact ⟨⟨A, c, b, h1.c hc (by omega), h2.c hc ha, h3.c hc (by omega), h4, h5, h6⟩, h.g1, h.g2, by have := h.hi; have := hc.size; omega, h.len, h.n1, h.n2⟩
theorem DkAt.k {row : Option Nat} (h : DkAt w lo hi g S C) (hg : w.grownBy w' row) (ha : Ap row lo hi) : DkAt w' lo hi g S C := by
  obtain ⟨A, c, b, h1, h2, h3, h4, h5, h6⟩ := h.ex
  have := h.g1
  have := h.g2
  refine ⟨⟨A, c, b, h1.k hg (fun k e => by have := ha k e; omega), ?_, h3.k hg (fun k e => by have := ha k e; omega), h4, h5, h6⟩, h.g1, h.g2, by have := h.hi; have := hg.size; omega, h.len, h.n1, h.n2⟩
  obtain ⟨xs, r1, r2⟩ := h2
  exact ⟨xs, r1.k hg ha, r2⟩
end
theorem C_valid {lo hi g : Nat} {S : List Sec} {C : List (Option Sec)} (w : World) (hd : DkAt w lo hi g S C) :
    CallsR Tryd.prog 40 [.pointer (some ⟨g, 0, none⟩)] w fun v w' => v = .bool true ∧ w' = w := by
  obtain ⟨A, c, b, f, fs, fm, h4, h5, h6⟩ := hd.ex
  refine callsR Tryd.func40 rfl rfl (by kernel_rfl) rfl ?_
  refine rk_seq ?_
  refine rk_region ?_
  refine wl_p (fun _ => o_assign rfl) ?_
  refine wl_nil ?_
  refine rk_seq ?_
  refine rk_region ?_
  refine wl_p (fun _ => o_move rfl) ?_
  refine wl_p (fun _ => o_pne_nil (t := 29) Tryd.underlying29 rfl rfl) ?_
  refine wl_p (fun _ => o_move rfl) ?_
  refine wl_p (fun _ => o_move rfl) ?_
  refine wl_p (fun _ => o_nil rfl) ?_
  refine wl_p (fun _ => o_faddr (s := 70) (i := 0) (off := 0) Tryd.underlying70 rfl Tryd.sizeOf29 rfl rfl rfl) ?_
  refine wl_r (o_loadbg Tryd.isAgg29 rfl f (by rfl)) ?_
  refine wl_p (fun _ => o_move rfl) ?_
  refine wl_p (fun _ => o_peq_same (t := 29) Tryd.underlying29 Tryd.sizeOf70 rfl rfl) ?_
  refine wl_p (fun _ => o_pick_t rfl rfl) ?_
  refine wl_p (fun _ => o_assign rfl) ?_
  refine wl_nil ?_
  refine ret1 rfl rfl ?_
  exact ⟨rfl, rfl⟩
theorem C_validNil (w : World) :
    CallsR Tryd.prog 40 [.pointer none] w fun v w' => v = .bool false ∧ w' = w := by
  refine callsR Tryd.func40 rfl rfl (by kernel_rfl) rfl ?_
  refine rk_seq ?_
  refine rk_region ?_
  refine wl_p (fun _ => o_assign rfl) ?_
  refine wl_nil ?_
  refine rk_seq ?_
  refine rk_region ?_
  refine wl_p (fun _ => o_move rfl) ?_
  refine wl_p (fun _ => o_pne_nil (t := 29) Tryd.underlying29 rfl rfl) ?_
  refine wl_p (fun _ => o_move rfl) ?_
  refine wl_off ?_
  refine wl_off ?_
  refine wl_off ?_
  refine wl_off ?_
  refine wl_off ?_
  refine wl_off ?_
  refine wl_p (fun _ => o_pick_f rfl rfl) ?_
  refine wl_p (fun _ => o_assign rfl) ?_
  refine wl_nil ?_
  refine ret1 rfl rfl ?_
  exact ⟨rfl, rfl⟩
theorem C_made {lo cp n : Nat} {A : Option Addr} {S : List Sec} (w : World) (hs : OwnSec w lo w.heap.size A cp S) (hn : n = S.length) (hlo : lo ≤ w.heap.size) (h1 : 1 ≤ S.length) (h2 : S.length ≤ 16384) :
    CallsR Tryd.prog 27 [.slice A n cp] w fun v w' => ∃ g, v = .pointer (some ⟨g, 0, none⟩) ∧ DkAt w' lo w'.heap.size g S (List.replicate S.length none) ∧ w.heap.size ≤ g ∧ Below w.heap.size w w' := by
  subst hn
  refine callsR Tryd.func27 rfl rfl (by kernel_rfl) rfl ?_
  have hw := Below.refl w.heap.size w
  refine rk_seq ?_
  refine rk_region ?_
  refine wl_p (fun _ => o_assign rfl) ?_
  refine wl_nil ?_
  refine rk_seq ?_
  refine rk_region ?_
  refine wl_p (fun _ => o_move rfl) ?_
  refine wl_makeS S.length Tryd.underlying68 ?_
  rintro b w5 fm b5 i5 i5_1
  have sb5 := b5.size
  replace hw := hw.trans (b5.mono hw.size)
  refine wl_p (fun _ => (o_buildg [_, _, _] Tryd.underlying70 Tryd.zeroValue70 (by rfl) (by rfl) rfl (by rfl) (by rfl) (fun _ => by kernel_rfl))) ?_
  refine wl_boxg [_, _, _] rfl (by rfl) ?_
  rintro g7 w7 f7 b7 i7 i7_1
  have s7 := b7.size
  replace hw := hw.trans (b7.mono hw.size)
  replace fm := fm.u b7
  refine wl_p (fun _ => o_assign rfl) ?_
  refine wl_nil ?_
  refine rk_seq ?_
  refine rk_region ?_
  refine wl_p (fun _ => o_move rfl) ?_
  refine wl_p (fun _ => o_move rfl) ?_
  refine wl_p (fun _ => o_nil rfl) ?_
  refine wl_p (fun _ => o_faddr (s := 70) (i := 0) (off := 0) Tryd.underlying70 rfl Tryd.sizeOf29 rfl rfl rfl) ?_
  refine wl_storeg1 Tryd.sizeOf29 rfl rfl (by rfl) f7 (by simp) ?_
  rintro w_1 f g e
  have s := g.size
  replace hw := hw.trans (below_of_grownBy g.g hw.size (by omega))
  replace fm := fm.k g.g (ap_some (by omega))
  clear f7
  refine wl_nil ?_
  refine rk_seq ?_
  refine rk_region ?_
  refine wl_p (fun _ => o_move rfl) ?_
  refine wl_p (fun _ => o_assign rfl) ?_
  refine wl_nil ?_
  refine ret1 rfl rfl ?_
  have hsz := hw.size
  exact ⟨g7, rfl, ⟨⟨A, cp, b, f, (hs.u hw).base (Nat.le_refl _) (by omega), fm, by omega, by omega, by omega⟩, by omega, by omega, Nat.le_refl _, List.length_replicate, h1, h2⟩, by omega, hw⟩
theorem K_dNew {n : Int} (w : World) :
    CallsR Tryd.prog 11 [.int .i64 n] w fun v w' => ((n < 1 ∨ 16384 < n) ∧ v = .tuple #[.pointer none, .int .i64 2] ∨ 1 ≤ n ∧ n ≤ 16384 ∧ ∃ g, v = .tuple #[.pointer (some ⟨g, 0, none⟩), .int .i64 0] ∧ DkAt w' w.heap.size w'.heap.size g (List.replicate n.toNat z256) (List.replicate n.toNat none)) ∧ Below w.heap.size w w' := by
  refine callsR Tryd.func11 rfl rfl (by kernel_rfl) rfl ?_
  have hw := Below.refl w.heap.size w
  refine rk_seq ?_
  refine rk_region ?_
  refine wl_p (fun _ => o_assign rfl) ?_
  refine wl_p (fun _ => o_assign rfl) ?_
  refine wl_nil ?_
  refine rk_seq ?_
  refine rk_seq ?_
  refine rk_region ?_
  refine wl_p (fun _ => o_move rfl) ?_
  refine wl_p (fun _ => o_lt rfl rfl) ?_
  refine wl_p (fun _ => o_move rfl) ?_
  refine wl_bool 6 rfl (fun h6 => ?_) (fun h6 => ?_) <;> try simp only [decide_eq_true_eq, decide_eq_false_iff_not, Bool.not_eq_true', Bool.not_eq_false', Bool.and_eq_true, Bool.and_eq_false_iff, Bool.or_eq_true, Bool.or_eq_false_iff] at h6
  · refine wl_off ?_
    refine wl_off ?_
    refine wl_p (fun _ => o_pick_t rfl rfl) ?_
    refine wl_nil ?_
    refine rk_true rfl ?_
    refine rk_seq ?_
    refine rk_region ?_
    refine wl_p (fun _ => o_assign rfl) ?_
    refine wl_p (fun _ => o_assign rfl) ?_
    refine wl_nil ?_
    refine ret2 rfl rfl rfl ?_
    exact ⟨.inl ⟨by omega, rfl⟩, hw⟩
  · refine wl_p (fun _ => o_move rfl) ?_
    refine wl_p (fun _ => o_gt rfl rfl) ?_
    refine wl_p (fun _ => o_pick_f rfl rfl) ?_
    refine wl_nil ?_
    refine rk_if rfl (fun h9 => ?_) (fun h9 => ?_)
    · refine rk_seq ?_
      refine rk_region ?_
      refine wl_p (fun _ => o_assign rfl) ?_
      refine wl_p (fun _ => o_assign rfl) ?_
      refine wl_nil ?_
      refine ret2 rfl rfl rfl ?_
      exact ⟨.inl ⟨by omega, rfl⟩, hw⟩
    · obtain ⟨m, rfl⟩ : ∃ m : Nat, n = (m : Int) := ⟨n.toNat, by omega⟩
      have hml : m = (List.replicate m z256).length := by rw [List.length_replicate]
      refine rk_skip ?_
      refine rk_seq ?_
      refine rk_region ?_
      refine wl_p (fun _ => o_move rfl) ?_
      refine wl_mkSec (m) rfl rfl rfl rfl (by omega) ?_
      rintro A11 w11 f11 b11
      have qf11 := f11.cap
      have s11 := b11.size
      replace hw := hw.trans (b11.mono hw.size)
      refine wl_call rfl (C_made _ f11 hml hw.size (by omega) (by omega)) ?_
      rintro v12 w12 ⟨g12, ⟨rfl, ⟨f12, ⟨i12, b12⟩⟩⟩⟩
      have s12 := b12.size
      replace hw := hw.trans (b12.mono hw.size)
      replace f11 := f11.u b12
      refine wl_p (fun _ => o_assign rfl) ?_
      refine wl_p (fun _ => o_assign rfl) ?_
      refine wl_nil ?_
      refine ret2 rfl rfl rfl ?_
      refine ⟨.inr ⟨by omega, by omega, g12, rfl, ?_⟩, hw⟩
      rw [List.length_replicate] at f12
      exact f12
theorem C_check {lo hi g : Nat} {S : List Sec} {C : List (Option Sec)} {a : Int} (w : World) (hd : DkAt w lo hi g S C) :
    CallsR Tryd.prog 30 [.pointer (some ⟨g, 0, none⟩), .int .i64 a] w fun v w' => v = .int .i64 (if 0 ≤ a ∧ a < S.length then 0 else 2) ∧ w' = w := by
  have hd0 := hd
  obtain ⟨A, c, b, f, fs, fm, h4, h5, h6⟩ := hd0.ex
  refine callsR Tryd.func30 rfl rfl (by kernel_rfl) rfl ?_
  by_cases h0 : a < 0
  · refine rk_seq ?_
    refine rk_region ?_
    refine wl_p (fun _ => o_assign rfl) ?_
    refine wl_nil ?_
    refine rk_seq ?_
    refine rk_seq ?_
    refine rk_region ?_
    refine wl_p (fun _ => o_move rfl) ?_
    refine wl_call rfl (C_valid _ hd0) ?_
    rintro v6 w6 ⟨rfl, rfl⟩
    refine wl_p (fun _ => o_not rfl) ?_
    refine wl_nil ?_
    refine rk_false rfl ?_
    refine rk_skip ?_
    refine rk_seq ?_
    refine rk_seq ?_
    refine rk_region ?_
    refine wl_p (fun _ => o_move rfl) ?_
    refine wl_p (fun _ => o_lt rfl rfl) ?_
    refine wl_p (fun _ => o_move rfl) ?_
    refine wl_know 10 true rfl (decide_eq_true (by omega)) ?_
    refine wl_off ?_
    refine wl_off ?_
    refine wl_off ?_
    refine wl_off ?_
    refine wl_off ?_
    refine wl_off ?_
    refine wl_off ?_
    refine wl_p (fun _ => o_pick_t rfl rfl) ?_
    refine wl_nil ?_
    refine rk_true rfl ?_
    refine rk_seq ?_
    refine rk_region ?_
    refine wl_p (fun _ => o_assign rfl) ?_
    refine wl_nil ?_
    refine ret1 rfl rfl ?_
    rw [if_neg (by omega)]
    exact ⟨rfl, rfl⟩
  · refine rk_seq ?_
    refine rk_region ?_
    refine wl_p (fun _ => o_assign rfl) ?_
    refine wl_nil ?_
    refine rk_seq ?_
    refine rk_seq ?_
    refine rk_region ?_
    refine wl_p (fun _ => o_move rfl) ?_
    refine wl_call rfl (C_valid _ hd0) ?_
    rintro v6 w6 ⟨rfl, rfl⟩
    refine wl_p (fun _ => o_not rfl) ?_
    refine wl_nil ?_
    refine rk_false rfl ?_
    refine rk_skip ?_
    refine rk_seq ?_
    refine rk_seq ?_
    refine rk_region ?_
    refine wl_p (fun _ => o_move rfl) ?_
    refine wl_p (fun _ => o_lt rfl rfl) ?_
    refine wl_p (fun _ => o_move rfl) ?_
    refine wl_know 10 false rfl (decide_eq_false (by omega)) ?_
    refine wl_p (fun _ => o_move rfl) ?_
    refine wl_p (fun _ => o_move rfl) ?_
    refine wl_p (fun _ => o_nil rfl) ?_
    refine wl_p (fun _ => o_faddr (s := 70) (i := 1) (off := 1) Tryd.underlying70 rfl Tryd.sizeOf61 rfl rfl rfl) ?_
    refine wl_r (o_loadbg Tryd.isAgg61 rfl f (by rfl)) ?_
    refine wl_p (fun _ => o_len (t := 61) Tryd.underlying61 rfl) ?_
    refine wl_p (fun _ => o_ge rfl rfl) ?_
    refine wl_p (fun _ => o_pick_f rfl rfl) ?_
    refine wl_nil ?_
    refine rk_if rfl (fun h18 => ?_) (fun h18 => ?_)
    · refine rk_seq ?_
      refine rk_region ?_
      refine wl_p (fun _ => o_assign rfl) ?_
      refine wl_nil ?_
      refine ret1 rfl rfl ?_
      rw [if_neg (by omega)]
      exact ⟨rfl, rfl⟩
    · refine rk_skip ?_
      refine rk_seq ?_
      refine rk_region ?_
      refine wl_p (fun _ => o_assign rfl) ?_
      refine wl_nil ?_
      refine ret1 rfl rfl ?_
      rw [if_pos (by omega)]
      exact ⟨rfl, rfl⟩
theorem C_checkNil {a : Int} (w : World) :
    CallsR Tryd.prog 30 [.pointer none, .int .i64 a] w fun v w' => v = .int .i64 1 ∧ w' = w := by
  refine callsR Tryd.func30 rfl rfl (by kernel_rfl) rfl ?_
  refine rk_seq ?_
  refine rk_region ?_
  refine wl_p (fun _ => o_assign rfl) ?_
  refine wl_nil ?_
  refine rk_seq ?_
  refine rk_seq ?_
  refine rk_region ?_
  refine wl_p (fun _ => o_move rfl) ?_
  refine wl_call rfl (C_validNil _) ?_
  rintro v6 w6 ⟨rfl, rfl⟩
  refine wl_p (fun _ => o_not rfl) ?_
  refine wl_nil ?_
  refine rk_true rfl ?_
  refine rk_seq ?_
  refine rk_region ?_
  refine wl_p (fun _ => o_assign rfl) ?_
  refine wl_nil ?_
  refine ret1 rfl rfl ?_
  exact ⟨rfl, rfl⟩
/-- What Read returns. -/
def rdD (S : List Sec) (C : List (Option Sec)) (a : Int) : By × Nat := if h : 0 ≤ a ∧ a < S.length then (((cAt C a).getD (S[a.toNat]'(by omega))).1, 0) else ([], 2)
theorem K_dRead {lo hi g : Nat} {S : List Sec} {C : List (Option Sec)} {a : Int} (w : World) (hd : DkAt w lo hi g S C) (wa : (Lit.int .i64 a).wf = true) :
    CallsR Tryd.prog 32 [.pointer (some ⟨g, 0, none⟩), .int .i64 a] w fun v w' => ∃ (A : Option Addr) (c : Nat) (r : By) (e : Nat), v = .tuple #[.slice A r.length c, .int .i64 (e : Int)] ∧ rdD S C a = (r, e) ∧ RdB w' w.heap.size w'.heap.size A r ∧ r.length ≤ c ∧ Below w.heap.size w w' := by
  refine callsR Tryd.func32 rfl rfl (by kernel_rfl) rfl ?_
  have hw := Below.refl w.heap.size w
  refine rk_seq ?_
  refine rk_region ?_
  refine wl_p (fun _ => o_assign rfl) ?_
  refine wl_p (fun _ => o_assign rfl) ?_
  refine wl_nil ?_
  refine rk_seq ?_
  refine rk_seq ?_
  refine rk_region ?_
  refine wl_p (fun _ => o_move rfl) ?_
  refine wl_p (fun _ => o_move rfl) ?_
  refine wl_call rfl (C_check _ hd) ?_
  rintro v11 w11 ⟨rfl, rfl⟩
  refine wl_p (fun _ => o_assign rfl) ?_
  refine wl_nil ?_
  refine rk_seq ?_
  refine rk_region ?_
  refine wl_p (fun _ => o_move rfl) ?_
  refine wl_p (fun _ => o_ne rfl rfl) ?_
  refine wl_nil ?_
  by_cases h0 : 0 ≤ a ∧ a < S.length
  · rw [if_pos h0]
    obtain ⟨A, c, b, f, fs, fm, h4, h5, h6⟩ := hd.ex
    obtain ⟨i, rfl⟩ : ∃ i : Nat, a = (i : Int) := ⟨a.toNat, by omega⟩
    have hal : ((cAt C (i : Int)).getD S[i]).1.length = 256 := ((cAt C (i : Int)).getD S[i]).2
    cases hci : cAt C (i : Int) with
    | some s =>
      rw [hci] at hal
      refine rk_false rfl ?_
      refine rk_skip ?_
      refine rk_seq ?_
      refine rk_region ?_
      refine wl_p (fun _ => o_move rfl) ?_
      refine wl_p (fun _ => o_nil rfl) ?_
      refine wl_p (fun _ => o_faddr (s := 70) (i := 2) (off := 2) Tryd.underlying70 rfl Tryd.sizeOf68 rfl rfl rfl) ?_
      refine wl_r (o_loadbg Tryd.isAgg68 rfl f (by rfl)) ?_
      refine wl_p (fun _ => o_move rfl) ?_
      refine wl_r (o_lookS2 Tryd.underlying68 rfl rfl fm hci wa) ?_
      refine wl_p (fun _ => o_move rfl) ?_
      refine wl_p (fun _ => o_ext20 rfl) ?_
      refine wl_p (fun _ => o_ext21 rfl) ?_
      refine wl_allocB Tryd.underlying67 Tryd.zeroValue67 (by rfl) ?_
      rintro g7 w7 f7 b7 i7 i7_1
      have s7 := b7.size
      replace hw := hw.trans (b7.mono hw.size)
      refine wl_stBa Tryd.sizeOf67 rfl f7 rfl (by simp; omega) (by rfl) ?_
      rintro w f_1 g_1 e
      have s_1 := g_1.size
      replace hw := hw.trans (below_of_grownBy g_1.g hw.size (by omega))
      clear f7
      refine wl_p (fun _ => o_assign rfl) ?_
      refine wl_nil ?_
      refine rk_seq ?_
      refine rk_seq ?_
      refine rk_region ?_
      refine wl_p (fun _ => o_move rfl) ?_
      refine wl_p (fun _ => o_not rfl) ?_
      refine wl_nil ?_
      refine rk_false rfl ?_
      refine rk_skip ?_
      refine rk_seq ?_
      refine rk_region ?_
      refine wl_p (fun _ => o_slice_arr (t := 67) Tryd.underlying67 Tryd.sizeOf5 rfl) ?_
      refine wl_p (fun _ => o_assign rfl) ?_
      refine wl_p (fun _ => o_assign rfl) ?_
      refine wl_nil ?_
      refine ret2 rfl rfl rfl ?_
      exact ⟨_, 256, s.1, 0, by rw [s.2]; rfl, by rw [rdD, dif_pos h0, hci]; rfl, f_1.rdB.base (by omega) (by omega), by rw [s.2]; omega, hw⟩
    | none =>
      rw [hci] at hal
      refine rk_false rfl ?_
      refine rk_skip ?_
      refine rk_seq ?_
      refine rk_region ?_
      refine wl_p (fun _ => o_move rfl) ?_
      refine wl_p (fun _ => o_nil rfl) ?_
      refine wl_p (fun _ => o_faddr (s := 70) (i := 2) (off := 2) Tryd.underlying70 rfl Tryd.sizeOf68 rfl rfl rfl) ?_
      refine wl_r (o_loadbg Tryd.isAgg68 rfl f (by rfl)) ?_
      refine wl_p (fun _ => o_move rfl) ?_
      refine wl_r (o_lookS2 Tryd.underlying68 rfl rfl fm hci wa) ?_
      refine wl_p (fun _ => o_move rfl) ?_
      refine wl_p (fun _ => o_ext20 rfl) ?_
      refine wl_p (fun _ => o_ext21 rfl) ?_
      refine wl_allocB Tryd.underlying67 Tryd.zeroValue67 (by rfl) ?_
      rintro g7 w7 f7 b7 i7 i7_1
      have s7 := b7.size
      replace hw := hw.trans (b7.mono hw.size)
      refine wl_stBa Tryd.sizeOf67 rfl f7 rfl (by rfl) (by rfl) ?_
      rintro w f_1 g_1 e
      have s := g_1.size
      replace hw := hw.trans (below_of_grownBy g_1.g hw.size (by omega))
      clear f7
      refine wl_p (fun _ => o_assign rfl) ?_
      refine wl_nil ?_
      refine rk_seq ?_
      refine rk_seq ?_
      refine rk_region ?_
      refine wl_p (fun _ => o_move rfl) ?_
      refine wl_p (fun _ => o_not rfl) ?_
      refine wl_nil ?_
      refine rk_true rfl ?_
      refine rk_region ?_
      refine wl_p (fun _ => o_move rfl) ?_
      refine wl_p (fun _ => o_nil rfl) ?_
      refine wl_p (fun _ => o_faddr (s := 70) (i := 1) (off := 1) Tryd.underlying70 rfl Tryd.sizeOf61 rfl rfl rfl) ?_
      refine wl_r (o_loadbg Tryd.isAgg61 rfl (f.u hw) (by rfl)) ?_
      refine wl_p (fun _ => o_move rfl) ?_
      refine wl_p (fun _ => (o_iaddrA (i) Tryd.underlying61 Tryd.sizeOf67 rfl rfl rfl (fs.some_ (by omega)) (by omega))) ?_
      refine wl_r (o_ldSec rfl (fs.u hw) (by omega)) ?_
      refine wl_stBa Tryd.sizeOf67 rfl f_1 rfl (by assumption) (by rfl) ?_
      rintro w_1 f_2 g_2 e_1
      have s_1 := g_2.size
      replace hw := hw.trans (below_of_grownBy g_2.g hw.size (by omega))
      clear f_1
      refine wl_nil ?_
      refine rk_seq ?_
      refine rk_region ?_
      refine wl_p (fun _ => o_slice_arr (t := 67) Tryd.underlying67 Tryd.sizeOf5 rfl) ?_
      refine wl_p (fun _ => o_assign rfl) ?_
      refine wl_p (fun _ => o_assign rfl) ?_
      refine wl_nil ?_
      refine ret2 rfl rfl rfl ?_
      exact ⟨_, 256, S[i].1, 0, by rw [S[i].2]; rfl, by rw [rdD, dif_pos h0, hci]; rfl, f_2.rdB.base (by omega) (by omega), by rw [S[i].2]; omega, hw⟩
  · rw [if_neg h0]
    refine rk_true rfl ?_
    refine rk_seq ?_
    refine rk_region ?_
    refine wl_p (fun _ => o_move rfl) ?_
    refine wl_p (fun _ => o_assign rfl) ?_
    refine wl_p (fun _ => o_assign rfl) ?_
    refine wl_nil ?_
    refine ret2 rfl rfl rfl ?_
    exact ⟨none, 0, [], 2, rfl, by rw [rdD, dif_neg h0], RdB.nil_, by simp, hw⟩
theorem C_dReadNil {a : Int} (w : World) :
    CallsR Tryd.prog 32 [.pointer none, .int .i64 a] w fun v w' => v = .tuple #[.slice none 0 0, .int .i64 1] ∧ Below w.heap.size w w' := by
  refine callsR Tryd.func32 rfl rfl (by kernel_rfl) rfl ?_
  have hw := Below.refl w.heap.size w
  refine rk_seq ?_
  refine rk_region ?_
  refine wl_p (fun _ => o_assign rfl) ?_
  refine wl_p (fun _ => o_assign rfl) ?_
  refine wl_nil ?_
  refine rk_seq ?_
  refine rk_seq ?_
  refine rk_region ?_
  refine wl_p (fun _ => o_move rfl) ?_
  refine wl_p (fun _ => o_move rfl) ?_
  refine wl_call rfl (C_checkNil _) ?_
  rintro v11 w11 ⟨rfl, rfl⟩
  refine wl_p (fun _ => o_assign rfl) ?_
  refine wl_nil ?_
  refine rk_seq ?_
  refine rk_region ?_
  refine wl_p (fun _ => o_move rfl) ?_
  refine wl_p (fun _ => o_ne rfl rfl) ?_
  refine wl_nil ?_
  refine rk_true rfl ?_
  refine rk_seq ?_
  refine rk_region ?_
  refine wl_p (fun _ => o_move rfl) ?_
  refine wl_p (fun _ => o_assign rfl) ?_
  refine wl_p (fun _ => o_assign rfl) ?_
  refine wl_nil ?_
  refine ret2 rfl rfl rfl ?_
  exact ⟨rfl, hw⟩
/-- What Write leaves, and returns. -/
def wrC (S : List Sec) (C : List (Option Sec)) (a : Int) (b : By) : List (Option Sec) × Nat := if h : (0 ≤ a ∧ a < S.length) ∧ b.length = 256 then (C.set a.toNat (some ⟨b, h.2⟩), 0) else (C, 2)
theorem K_dWrite {lo hi g n cp : Nat} {S : List Sec} {C : List (Option Sec)} {a : Int} {B : Option Addr} {b : By} (w : World) (hd : DkAt w lo hi g S C) (hb : Rd w B b) (wa : (Lit.int .i64 a).wf = true) (hn : n = b.length) (hc : n ≤ cp) :
    CallsR Tryd.prog 13 [.pointer (some ⟨g, 0, none⟩), .int .i64 a, .slice B n cp] w fun v w' => ∃ (C' : List (Option Sec)) (e : Nat), v = .int .i64 (e : Int) ∧ wrC S C a b = (C', e) ∧ DkAt w' lo hi g S C' ∧ Chg lo hi w w' := by
  subst hn
  refine callsR Tryd.func13 rfl rfl (by kernel_rfl) rfl ?_
  have hcg : Chg lo hi w w := Chg.refl
  refine rk_seq ?_
  refine rk_region ?_
  refine wl_p (fun _ => o_assign rfl) ?_
  refine wl_nil ?_
  refine rk_seq ?_
  refine rk_seq ?_
  refine rk_region ?_
  refine wl_p (fun _ => o_move rfl) ?_
  refine wl_p (fun _ => o_move rfl) ?_
  refine wl_call rfl (C_check _ hd) ?_
  rintro v10 w10 ⟨rfl, rfl⟩
  refine wl_p (fun _ => o_assign rfl) ?_
  refine wl_nil ?_
  refine rk_seq ?_
  refine rk_region ?_
  refine wl_p (fun _ => o_move rfl) ?_
  refine wl_p (fun _ => o_ne rfl rfl) ?_
  refine wl_nil ?_
  by_cases h0 : 0 ≤ a ∧ a < S.length
  · rw [if_pos h0]
    refine rk_false rfl ?_
    refine rk_skip ?_
    refine rk_seq ?_
    refine rk_seq ?_
    refine rk_region ?_
    refine wl_p (fun _ => o_move rfl) ?_
    refine wl_p (fun _ => o_len (t := 22) Tryd.underlying22 rfl) ?_
    refine wl_p (fun _ => o_ne rfl rfl) ?_
    refine wl_nil ?_
    by_cases hbl : b.length = 256
    · obtain ⟨A, c, b', f, fs, fm, h4, h5, h6⟩ := hd.ex
      obtain ⟨i, rfl⟩ : ∃ i : Nat, a = (i : Int) := ⟨a.toNat, by omega⟩
      have hhi := hd.hi
      have hg1 := hd.g1
      have hg2 := hd.g2
      have hle := hd.len
      have hn1 := hd.n1
      have hn2 := hd.n2
      refine rk_if rfl (fun h16 => absurd h16 (by omega)) (fun h16 => ?_)
      refine rk_skip ?_
      refine rk_seq ?_
      refine rk_draw (id := 6) (none) [0, 1, 2, 4, 0, 0, 32, 64, 255] [0, 1, 3, 7, 0, 0, 32, 96, 255] 256 0 [(.p, 0), (.p, 1), (.p, 2), (.r, 3), (.p, 4), (.p, 5), (.p, 6), (.r, 7), (.l, 8)] (by kernel_rfl) (by kernel_rfl) (by kernel_rfl) (by kernel_rfl) (by kernel_rfl) ?_
      replace hcg := hcg.trans Chg.drew
      replace fm := fm.d
      replace fs := fs.d
      replace f := f.d
      replace hb := hb.d
      replace hd := hd.d
      refine wl_p (fun _ => o_move rfl) ?_
      refine wl_p (fun _ => o_nil rfl) ?_
      refine wl_p (fun _ => o_faddr (s := 70) (i := 2) (off := 2) Tryd.underlying70 rfl Tryd.sizeOf68 rfl rfl rfl) ?_
      refine wl_r (o_loadbg Tryd.isAgg68 rfl f (by rfl)) ?_
      refine wl_p (fun _ => o_move rfl) ?_
      refine wl_p (fun _ => o_move rfl) ?_
      refine wl_p (fun _ => (o_arrptr Tryd.underlying67 rfl (by omega))) ?_
      refine wl_r (o_ldSecSl rfl hb hbl) ?_
      refine wl_putS Tryd.underlying68 rfl rfl fm rfl rfl (by omega) (by omega) ?_
      rintro w f_1 g_1 e
      simp only [drew_size] at e
      have s := g_1.size
      simp only [drew_size] at s
      replace hcg := hcg.trans (Chg.of_g1 g_1.g (by omega) (by omega))
      replace f := f.k g_1.g (ap_some (by omega))
      replace fs := fs.m g_1
      clear hd
      clear hb
      clear fm
      refine wl_nild ?_
      refine rk_seq ?_
      refine rk_region ?_
      refine wl_p (fun _ => o_assign rfl) ?_
      refine wl_nil ?_
      refine ret1 rfl rfl ?_
      exact ⟨C.set i (some ⟨b, hbl⟩), 0, rfl, by rw [wrC, dif_pos ⟨h0, hbl⟩]; rfl, ⟨⟨A, c, b', f, fs, f_1, h4, h5, h6⟩, hg1, hg2, by have := hcg.size; omega, by rw [List.length_set]; exact hle, hn1, hn2⟩, hcg⟩
    · refine rk_if rfl (fun h16 => ?_) (fun h16 => h16.elim (by omega))
      refine rk_seq ?_
      refine rk_region ?_
      refine wl_p (fun _ => o_assign rfl) ?_
      refine wl_nil ?_
      refine ret1 rfl rfl ?_
      exact ⟨C, 2, rfl, by rw [wrC, dif_neg (fun h => hbl h.2)], hd, hcg⟩
  · rw [if_neg h0]
    refine rk_true rfl ?_
    refine rk_seq ?_
    refine rk_region ?_
    refine wl_p (fun _ => o_move rfl) ?_
    refine wl_p (fun _ => o_assign rfl) ?_
    refine wl_nil ?_
    refine ret1 rfl rfl ?_
    exact ⟨C, 2, rfl, by rw [wrC, dif_neg (fun h => h0 h.1)], hd, hcg⟩
end Go.Proofs.YtklijaahbahcoaaDoor
/-
  DERIVED: THE SHELF's CONTRACTS AT THIS DUMP, IN PLAIN WORDS (tools/lay-plain.mjs out of 'TryShelf.lean', which tools/lay-shelf.mjs wrote): THE SAME DECLARATIONS UNDER THE SAME NAMES: 'import', 'namespace', 'open', 'def', 'theorem' AND NOTHING ELSE: no command of the shelf's: FOR A HAND-IN. Each laying: the table of numbers ('.._ren') and one theorem, a field a fact of the dump's own or the kernel's comparison; each contract: ONE APPLICATION.
-/
namespace Go.Proofs
open Go.Shelf
def Tryd.keysA_ren : Go.Shelf.Ren := ⟨fun | 7 => 48 | 10 => 60 | n => n, fun | 23 => 68 | 26 => 3 | 3 => 67 | 28 => 84 | 0 => 0 | 27 => 83 | 33 => 71 | 4 => 4 | n => n, fun | n => n⟩
theorem Tryd.keysA : Go.Proofs.SlLaysZI.n7 Tryd.prog Tryd.keysA_ren := {
  mixed := by kernel_rfl
  f7 := ⟨Tryd.f48.name, by decide, Tryd.func48.trans (congrArg some (by kernel_rfl))⟩
  f10 := ⟨Tryd.f60.name, by decide, Tryd.func60.trans (congrArg some (by kernel_rfl))⟩
  t0 := Tryd.underlying0
  a0 := Tryd.isAgg0
  z0 := Tryd.sizeOf0
  v0 := Tryd.zeroValue0
  t4 := Tryd.underlying4
  a4 := Tryd.isAgg4
  z4 := Tryd.sizeOf4
  v4 := Tryd.zeroValue4
  t23 := Tryd.underlying68
  a23 := Tryd.isAgg68
  z23 := Tryd.sizeOf68
  v23 := Tryd.zeroValue68
  t26 := Tryd.underlying3
  a26 := Tryd.isAgg3
  z26 := Tryd.sizeOf3
  v26 := Tryd.zeroValue3
  t27 := Tryd.underlying83
  a27 := Tryd.isAgg83
  z27 := Tryd.sizeOf83
  v27 := Tryd.zeroValue83
  t28 := Tryd.underlying84
  a28 := Tryd.isAgg84
  z28 := Tryd.sizeOf84
  v28 := Tryd.zeroValue84
  t33 := Tryd.underlying71
  a33 := Tryd.isAgg71
  z33 := Tryd.sizeOf71
  v33 := Tryd.zeroValue71 }
def Tryd.sortedA_ren : Go.Shelf.Ren := ⟨fun | 6 => 47 | 8 => 58 | 9 => 59 | 11 => 68 | 13 => 70 | 12 => 69 | 23 => 87 | 24 => 88 | 14 => 78 | 15 => 79 | 16 => 80 | 17 => 81 | 18 => 82 | 19 => 83 | 20 => 84 | 21 => 85 | 22 => 86 | 25 => 89 | 26 => 90 | 27 => 91 | 28 => 92 | 29 => 93 | 30 => 94 | 31 => 95 | n => n, fun | 26 => 3 | 28 => 84 | 24 => 35 | 0 => 0 | 3 => 3 | 37 => 81 | 48 => 122 | 50 => 73 | 4 => 4 | 40 => 114 | 39 => 113 | 45 => 119 | 5 => 5 | 9 => 9 | 51 => 123 | 55 => 127 | 57 => 129 | 58 => 130 | 33 => 71 | n => n, fun | n => n⟩
theorem Tryd.sortedA : Go.Proofs.SlLaysZI.n6 Tryd.prog Tryd.sortedA_ren := {
  mixed := by kernel_rfl
  f6 := ⟨Tryd.f47.name, by decide, Tryd.func47.trans (congrArg some (by kernel_rfl))⟩
  f8 := ⟨Tryd.f58.name, by decide, Tryd.func58.trans (congrArg some (by kernel_rfl))⟩
  f11 := ⟨Tryd.f68.name, by decide, Tryd.func68.trans (congrArg some (by kernel_rfl))⟩
  t0 := Tryd.underlying0
  a0 := Tryd.isAgg0
  z0 := Tryd.sizeOf0
  v0 := Tryd.zeroValue0
  t24 := Tryd.underlying35
  a24 := Tryd.isAgg35
  z24 := Tryd.sizeOf35
  v24 := Tryd.zeroValue35
  t26 := Tryd.underlying3
  a26 := Tryd.isAgg3
  z26 := Tryd.sizeOf3
  v26 := Tryd.zeroValue3
  t28 := Tryd.underlying84
  a28 := Tryd.isAgg84
  z28 := Tryd.sizeOf84
  v28 := Tryd.zeroValue84
  i26 := by kernel_rfl }
def Tryd.sortA_ren : Go.Shelf.Ren := ⟨fun | 5 => 59 | 8 => 70 | 7 => 69 | 19 => 87 | 20 => 88 | 10 => 78 | 11 => 79 | 12 => 80 | 13 => 81 | 14 => 82 | 15 => 83 | 16 => 84 | 17 => 85 | 18 => 86 | 30 => 89 | 31 => 90 | 32 => 91 | 33 => 92 | 34 => 93 | 35 => 94 | 40 => 95 | n => n, fun | 23 => 35 | 25 => 3 | 3 => 3 | 32 => 81 | 22 => 35 | 0 => 0 | 44 => 122 | 46 => 73 | 4 => 4 | 36 => 114 | 35 => 113 | 41 => 119 | 5 => 5 | 9 => 9 | 53 => 123 | 57 => 127 | 63 => 129 | 64 => 130 | n => n, fun | n => n⟩
theorem Tryd.sortA : Go.Proofs.SlLaysM.n5 Tryd.prog Tryd.sortA_ren := {
  mixed := by kernel_rfl
  f5 := ⟨Tryd.f59.name, by decide, Tryd.func59.trans (congrArg some (by kernel_rfl))⟩
  f7 := ⟨Tryd.f69.name, by decide, Tryd.func69.trans (congrArg some (by kernel_rfl))⟩
  f8 := Tryd.func70.trans (congrArg some (by kernel_rfl))
  f10 := ⟨Tryd.f78.name, by decide, Tryd.func78.trans (congrArg some (by kernel_rfl))⟩
  f11 := ⟨Tryd.f79.name, by decide, Tryd.func79.trans (congrArg some (by kernel_rfl))⟩
  f12 := ⟨Tryd.f80.name, by decide, Tryd.func80.trans (congrArg some (by kernel_rfl))⟩
  f13 := ⟨Tryd.f81.name, by decide, Tryd.func81.trans (congrArg some (by kernel_rfl))⟩
  f14 := ⟨Tryd.f82.name, by decide, Tryd.func82.trans (congrArg some (by kernel_rfl))⟩
  f15 := ⟨Tryd.f83.name, by decide, Tryd.func83.trans (congrArg some (by kernel_rfl))⟩
  f16 := ⟨Tryd.f84.name, by decide, Tryd.func84.trans (congrArg some (by kernel_rfl))⟩
  f17 := ⟨Tryd.f85.name, by decide, Tryd.func85.trans (congrArg some (by kernel_rfl))⟩
  f18 := ⟨Tryd.f86.name, by decide, Tryd.func86.trans (congrArg some (by kernel_rfl))⟩
  f19 := Tryd.func87.trans (congrArg some (by kernel_rfl))
  f20 := Tryd.func88.trans (congrArg some (by kernel_rfl))
  f30 := ⟨Tryd.f89.name, by decide, Tryd.func89.trans (congrArg some (by kernel_rfl))⟩
  f31 := Tryd.func90.trans (congrArg some (by kernel_rfl))
  f32 := Tryd.func91.trans (congrArg some (by kernel_rfl))
  f33 := ⟨Tryd.f92.name, by decide, Tryd.func92.trans (congrArg some (by kernel_rfl))⟩
  f34 := ⟨Tryd.f93.name, by decide, Tryd.func93.trans (congrArg some (by kernel_rfl))⟩
  f35 := ⟨Tryd.f94.name, by decide, Tryd.func94.trans (congrArg some (by kernel_rfl))⟩
  f40 := ⟨Tryd.f95.name, by decide, Tryd.func95.trans (congrArg some (by kernel_rfl))⟩
  t0 := Tryd.underlying0
  a0 := Tryd.isAgg0
  z0 := Tryd.sizeOf0
  v0 := Tryd.zeroValue0
  t3 := Tryd.underlying3
  a3 := Tryd.isAgg3
  z3 := Tryd.sizeOf3
  v3 := Tryd.zeroValue3
  t4 := Tryd.underlying4
  a4 := Tryd.isAgg4
  z4 := Tryd.sizeOf4
  v4 := Tryd.zeroValue4
  t5 := Tryd.underlying5
  a5 := Tryd.isAgg5
  z5 := Tryd.sizeOf5
  v5 := Tryd.zeroValue5
  t9 := Tryd.underlying9
  a9 := Tryd.isAgg9
  z9 := Tryd.sizeOf9
  v9 := Tryd.zeroValue9
  t22 := Tryd.underlying35
  a22 := Tryd.isAgg35
  z22 := Tryd.sizeOf35
  v22 := Tryd.zeroValue35
  t23 := Tryd.underlying35
  a23 := Tryd.isAgg35
  z23 := Tryd.sizeOf35
  v23 := Tryd.zeroValue35
  t25 := Tryd.underlying3
  a25 := Tryd.isAgg3
  z25 := Tryd.sizeOf3
  v25 := Tryd.zeroValue3
  t32 := Tryd.underlying81
  a32 := Tryd.isAgg81
  z32 := Tryd.sizeOf81
  v32 := Tryd.zeroValue81
  t35 := Tryd.underlying113
  a35 := Tryd.isAgg113
  z35 := Tryd.sizeOf113
  v35 := Tryd.zeroValue113
  t36 := Tryd.underlying114
  a36 := Tryd.isAgg114
  z36 := Tryd.sizeOf114
  v36 := Tryd.zeroValue114
  t41 := Tryd.underlying119
  a41 := Tryd.isAgg119
  z41 := Tryd.sizeOf119
  v41 := Tryd.zeroValue119
  t44 := Tryd.underlying122
  a44 := Tryd.isAgg122
  z44 := Tryd.sizeOf122
  v44 := Tryd.zeroValue122
  t46 := Tryd.underlying73
  a46 := Tryd.isAgg73
  z46 := Tryd.sizeOf73
  v46 := Tryd.zeroValue73
  t53 := Tryd.underlying123
  a53 := Tryd.isAgg123
  z53 := Tryd.sizeOf123
  v53 := Tryd.zeroValue123
  t57 := Tryd.underlying127
  a57 := Tryd.isAgg127
  z57 := Tryd.sizeOf127
  v57 := Tryd.zeroValue127
  t63 := Tryd.underlying129
  a63 := Tryd.isAgg129
  z63 := Tryd.sizeOf129
  v63 := Tryd.zeroValue129
  t64 := Tryd.underlying130
  a64 := Tryd.isAgg130
  z64 := Tryd.sizeOf130
  v64 := Tryd.zeroValue130 }
def Tryd.lays129_ren : Go.Shelf.Ren := ⟨fun | 129 => 88 | n => n, fun | 53 => 73 | 3 => 3 | 4 => 4 | 46 => 81 | 5 => 5 | 9 => 9 | n => n, fun | n => n⟩
theorem Tryd.lays129 : Go.Proofs.Lays.n129 Tryd.prog Tryd.lays129_ren := {
  mixed := by kernel_rfl
  f129 := Tryd.func88.trans (congrArg some (by kernel_rfl))
  t3 := Tryd.underlying3
  a3 := Tryd.isAgg3
  z3 := Tryd.sizeOf3
  v3 := Tryd.zeroValue3
  t4 := Tryd.underlying4
  a4 := Tryd.isAgg4
  z4 := Tryd.sizeOf4
  v4 := Tryd.zeroValue4
  t5 := Tryd.underlying5
  a5 := Tryd.isAgg5
  z5 := Tryd.sizeOf5
  v5 := Tryd.zeroValue5
  t9 := Tryd.underlying9
  a9 := Tryd.isAgg9
  z9 := Tryd.sizeOf9
  v9 := Tryd.zeroValue9
  t46 := Tryd.underlying81
  a46 := Tryd.isAgg81
  z46 := Tryd.sizeOf81
  v46 := Tryd.zeroValue81
  t53 := Tryd.underlying73
  a53 := Tryd.isAgg73
  z53 := Tryd.sizeOf73
  v53 := Tryd.zeroValue73 }
theorem Tryd.bits_Len64 (x : Int) (w : World) (h0 : 0 ≤ x) (h1 : x ≤ 18446744073709551615) :
    Calls Tryd.prog 88 #[.int .u64 x] w fun e w' => e = .returned (.int .i64 (Lib.bitLen x.toNat)) ∧ w' = w := Any.bits_Len64 Tryd.lays129 x w h0 h1
def Tryd.lays264_ren : Go.Shelf.Ren := ⟨fun | 264 => 74 | n => n, fun | 53 => 73 | 46 => 81 | n => n, fun | n => n⟩
theorem Tryd.lays264 : Go.Proofs.Lays.n264 Tryd.prog Tryd.lays264_ren := {
  mixed := by kernel_rfl
  f264 := Tryd.func74.trans (congrArg some (by kernel_rfl))
  t46 := Tryd.underlying81
  a46 := Tryd.isAgg81
  z46 := Tryd.sizeOf81
  v46 := Tryd.zeroValue81
  t53 := Tryd.underlying73
  a53 := Tryd.isAgg73
  z53 := Tryd.sizeOf73
  v53 := Tryd.zeroValue73 }
theorem Tryd.bits_Mul64 (x y : Nat) (hx : x < 18446744073709551616) (hy : y < 18446744073709551616) (w : World) :
    Calls Tryd.prog 74 #[.int .u64 x, .int .u64 y] w fun e w' => e = .returned (.tuple #[.int .u64 ((x * y / 18446744073709551616 : Nat) : Int), .int .u64 ((x * y % 18446744073709551616 : Nat) : Int)]) ∧ w' = w := Any.bits_Mul64 Tryd.lays264 x y hx hy w
end Go.Proofs
/-
  Rows of truth values. No function of the program is named here.
-/
namespace Go.Proofs.YtklijaahbahcoaaDoor
set_option maxRecDepth 100000
open Go.RowKit
/-- Truth values that are read, in the blocks from lo to hi. -/
structure RdBo (w : World) (lo hi : Nat) (A : Option Addr) (l : List Bool) : Prop where
  r : Reads w 1 A l.length (l.map Value.bool)
  b : l ≠ [] → ∀ k, blk A = some k → lo ≤ k ∧ k < hi
section
variable {w w' : World} {lo hi lo' hi' : Nat} {A : Option Addr} {l : List Bool} {row : Option Nat}
theorem RdBo.keep (h : RdBo w lo hi A l) (hk : ∀ k, lo ≤ k → k < hi → k < w.heap.size → w'.heap[k]? = w.heap[k]?) : RdBo w' lo hi A l := by
  refine ⟨⟨h.r.1, fun hn => ?_⟩, h.b⟩
  obtain ⟨b, o, rfl, hcl⟩ := h.r.2 hn
  have hb := h.b (fun e => hn (by rw [e]; rfl)) b rfl
  refine ⟨b, o, rfl, fun j u hj => ?_⟩
  have h1 := hcl j u hj
  have hlt : b < w.heap.size := block_lt_of_cell h1
  rw [← h1]
  show World.cell? w' _ = World.cell? w _
  unfold World.cell?
  rw [show w'.heap[b]? = w.heap[b]? from hk b hb.1 hb.2 hlt]
theorem RdBo.u (h : RdBo w lo hi A l) (hb : Below w.heap.size w w') : RdBo w' lo hi A l := ⟨h.r.below hb, h.b⟩
theorem RdBo.d (h : RdBo w lo hi A l) : RdBo w.drew lo hi A l := ⟨h.r, h.b⟩
theorem RdBo.c (h : RdBo w lo hi A l) (hc : Chg lo' hi' w w') (ha : hi ≤ lo' ∨ hi' ≤ lo) : RdBo w' lo hi A l := h.keep (fun k h1 h2 h3 => hc.block k h3 (by omega))
theorem RdBo.k (h : RdBo w lo hi A l) (hg : w.grownBy w' row) (ha : Ap row lo hi) : RdBo w' lo hi A l := h.keep (fun k h1 h2 h3 => hg.block k h3 (fun e => by have := ha k e.symm; omega))
theorem RdBo.nil_ : RdBo w lo hi none [] := ⟨Reads.none_ _ _ _, fun h => absurd rfl h⟩
theorem RdBo.some_ (h : RdBo w lo hi A l) (hl : 0 < l.length) : A = some (A.getD ⟨0, 0, none⟩) := Reads.some_ h.r (by decide) hl
theorem RdBo.base (h : RdBo w lo hi A l) (h1 : lo' ≤ lo) (h2 : hi ≤ hi') : RdBo w lo' hi' A l := ⟨h.r, fun hn k e => by have := h.b hn k e; omega⟩
theorem RdBo.of (h : Reads w 1 A l.length (l.map Value.bool)) : RdBo w 0 w.heap.size A l := ⟨h, fun hn k hk => ⟨Nat.zero_le _, by
  obtain ⟨b, o, rfl, hcl⟩ := h.2 (fun e => hn (by cases l with | nil => rfl | cons x y => cases e))
  have : b = k := by simpa [blk] using hk
  subst this
  cases l with
  | nil => exact absurd rfl hn
  | cons x y => exact block_lt_of_cell (hcl 0 _ rfl)⟩⟩
end
theorem Tryd.rowBo : RowT Tryd.prog 54 4 (.bool false) 1 1 := ⟨Tryd.underlying54, by kernel_rfl, rfl, by omega⟩
/-- A row of truth values of the call's own. -/
def OwnBo (w : World) (lo hi : Nat) (A : Option Addr) (c : Nat) (l : List Bool) : Prop := RowH w lo hi 4 1 A l.length c (l.map Value.bool)
section
variable {w w' : World} {lo hi lo' hi' cp b : Nat} {A : Option Addr} {l : List Bool} {row : Option Nat} {e' : TypeId}
theorem OwnBo.u (h : OwnBo w lo hi A cp l) (hb : Below w.heap.size w w') : OwnBo w' lo hi A cp l := RowH.u h hb
theorem OwnBo.d (h : OwnBo w lo hi A cp l) : OwnBo w.drew lo hi A cp l := RowH.d h
theorem OwnBo.k (h : OwnBo w lo hi A cp l) (hg : w.grownBy w' row) (ha : Ap row lo hi) : OwnBo w' lo hi A cp l := RowH.k h hg ha
theorem OwnBo.y (h : OwnBo w lo hi A cp l) (hg : Grew w w' e' row) (hne : e' ≠ 4) : OwnBo w' lo hi A cp l := RowH.y h hg hne
theorem OwnBo.m (h : OwnBo w lo hi A cp l) (hg : GrewM w w' b) : OwnBo w' lo hi A cp l := RowH.m h hg
theorem OwnBo.c (h : OwnBo w lo hi A cp l) (hc : Chg lo' hi' w w') (ha : hi ≤ lo' ∨ hi' ≤ lo) : OwnBo w' lo hi A cp l := RowH.c h hc ha
theorem OwnBo.ap (h : OwnBo w lo hi A cp l) (hd : hi ≤ lo' ∨ hi' ≤ lo) : Ap (blk A) lo' hi' := RowH.ap h hd
theorem OwnBo.cap (h : OwnBo w lo hi A cp l) : l.length ≤ cp := RowH.cap h
theorem OwnBo.base (h : OwnBo w lo hi A cp l) (h1 : lo' ≤ lo) (h2 : hi ≤ hi') : OwnBo w lo' hi' A cp l := RowH.base h h1 h2
theorem OwnBo.rng (h : OwnBo w lo hi A cp l) : ∀ k, blk A = some k → lo ≤ k ∧ k < hi := fun k hk => ⟨(RowH.lt h k hk).1, h.hi k hk⟩
theorem OwnBo.nil_ : OwnBo w lo hi none 0 [] := RowH.nil _ _ _ _ _
theorem OwnBo.to_RdBo (h : OwnBo w lo hi A cp l) : RdBo w lo hi A l := ⟨RowH.rd h, fun _ => h.rng⟩
theorem OwnBo.some_ (h : OwnBo w lo hi A cp l) (hl : 0 < l.length) : A = some (A.getD ⟨0, 0, none⟩) := h.to_RdBo.some_ hl
theorem OwnBo.stored {j : Nat} {v : Bool} (h : OwnBo w lo hi A cp l) (hj : j < l.length) :
    OwnBo (w.setCell (adr A j) (.bool v)) lo hi A cp (l.set j v) ∧ Grew w (w.setCell (adr A j) (.bool v)) 4 (blk A) ∧ (w.setCell (adr A j) (.bool v)).heap.size = w.heap.size ∧ w.frozen? (adr A j) = false ∧ (w.cell? (adr A j)).isSome = true := by
  obtain ⟨g, hA⟩ : ∃ g, A = some ⟨g, 0, none⟩ := by
    rcases h.o.2 with ⟨h', h0⟩ | ⟨g, cap, cur, hv, _⟩
    · omega
    · injection hv with hv; exact ⟨g, hv⟩
  subst hA
  have e1 : adr (some ⟨g, 0, none⟩) j = ⟨g, j, none⟩ := by simp [adr, add_plain]
  rw [e1]
  have h1 := World.ownsRow.stored h.o j (.bool v)
  refine ⟨⟨?_, h.hi⟩, ⟨h1.2, RowH.ty h⟩, ?_, World.ownsRow.frozenAt h.o j, ?_⟩
  · rw [List.length_set, List.map_set]; exact h1.1
  · exact Nat.le_antisymm (by simp) h1.2.size
  · have := (RowH.rd h).adr_ (fun e0 => by have := congrArg List.length e0; rw [List.length_map, List.length_nil] at this; omega)
    have h2 := this.2 j (.bool l[j]) (by simp [hj])
    rw [e1] at h2; rw [h2]; rfl
end
section
variable {fn : Func} {F : Ending → World → Prop} {N : Nat} {ks : List K} {ops : Array Oper} {tg : Tags} {l : List Oper} {fr : Fr} {w w0 : World} {ty t : TypeId} {pos : String} {aft : Array Edge} {gd : Option (Nat × Bool)} {k1 k2 : IntKind} {d j n q cp lo hi lo2 hi2 : Nat} {x y : Operand} {A X : Option Addr} {zs ms : List Bool}
--@ rule load r o_ldBo
theorem o_ldBo (ha' : ∀ w, (isAgg t).run Tryd.prog w = .ok false w) (hx : fr.ev x = some (.pointer (some (adr A j)))) (hr : RdBo w lo hi A zs) (hj : j < zs.length) : OpV Tryd.prog N fr w (.load t x) ty (.bool zs[j]) w :=
  o_loadA1 ha' hx hr.r (by simp [hj])
--@ rule store l wl_stBo
theorem wl_stBo {v : Bool} (hs : ∀ w, (sizeOf t).run Tryd.prog w = .ok 1 w) (hx : fr.ev x = some (.pointer (some (adr A j)))) (hown : OwnBo w lo hi A cp zs) (hy : fr.ev y = some (.bool v)) (hj : j < zs.length)
    (hk : ∀ w', OwnBo w' lo hi A cp (zs.set j v) → Grew w w' 4 (blk A) → Below lo w w' → w'.heap.size = w.heap.size → WL Tryd.prog fn F N ks ops tg.tail l fr w') (ht : tg.loud = true := by rfl) (hg : onG ops fr gd = true := by rfl) (hq : tg.calm = false ∨ tg.rw.may (blk A) := by exact .inl rfl) :
    WL Tryd.prog fn F N ks ops tg (⟨none, .store t x y, ty, pos, aft, gd⟩ :: l) fr w := by
  obtain ⟨h1, h2, h3, h4, h5⟩ := hown.stored (v := v) hj
  obtain ⟨u, hu⟩ := Option.isSome_iff_exists.1 h5
  have hA := hown.some_ (by omega)
  have hlt : lo ≤ w.heap.size := by
    obtain ⟨ad, e⟩ : ∃ ad, A = some ad := ⟨_, hA⟩
    have := (RowH.lt hown ad.block (by rw [e]; rfl)); omega
  exact wl_u (o_store hs hx hy rfl hu h4) (hk _ h1 h2 (h2.below hlt (fun k hk => (hown.rng k hk).1)) h3) ht hg (hq.imp id (Rw.of_may h2.g))
--@ rule buildSlice l wl_litBo
theorem wl_litBo {ps : Array (Nat × Operand)} {xs : List Operand} {vs : List Value} (hxs : ps.toList.map Prod.snd = xs) (hx : fr.evs xs = some vs) (hv : vs = zs.map Value.bool) (hn : zs.length = n) (hps : ps = ((List.range' 0 n).zip xs).toArray) (hm : Nat.ble (n * 1) 1000000 = true)
    (hk : ∀ A w', OwnBo w' w.heap.size w'.heap.size A n zs → Below w.heap.size w w' → WL Tryd.prog fn F N ks ops tg.tail l ((d, .slice A n n) :: fr) w')
    (ht : tg.loud = true := by rfl) (hg : onG ops fr gd = true := by rfl) (hd : Nat.blt d N = true := by rfl) : WL Tryd.prog fn F N ks ops tg (⟨some d, .buildSlice 54 n ps, ty, pos, aft, gd⟩ :: l) fr w := by
  refine wl_litR Tryd.rowBo Tryd.sizeOf4 Tryd.zeroValue4 hxs hps hx (by rw [hv, List.length_map, hn]) (fun v hv' => ?_) hm (fun A w' h1 h2 => hk A w' ?_ h2) ht hg hd
  · rw [hv] at hv'
    obtain ⟨z, _, rfl⟩ := List.mem_map.1 hv'
    rfl
  · have e : (zs.map Value.bool).flatMap (fun v => v.cells.toList) = zs.map Value.bool := by
      clear h1 hk hm hx hv hn hps hxs
      induction zs with
      | nil => rfl
      | cons d L ih => rw [List.map_cons, List.flatMap_cons, ih]; rfl
    rw [hv, e] at h1
    subst hn
    exact h1
--@ rule buildSlice l wl_litBo0
theorem wl_litBo0 {ps : Array (Nat × Operand)} (hps : ps = #[])
    (hk : ∀ A w', OwnBo w' w.heap.size w'.heap.size A 0 [] → Below w.heap.size w w' → WL Tryd.prog fn F N ks ops tg.tail l ((d, .slice A 0 0) :: fr) w')
    (ht : tg.loud = true := by rfl) (hg : onG ops fr gd = true := by rfl) (hd : Nat.blt d N = true := by rfl) : WL Tryd.prog fn F N ks ops tg (⟨some d, .buildSlice 54 0 ps, ty, pos, aft, gd⟩ :: l) fr w := by
  subst hps
  exact wl_litBo (zs := []) (xs := []) (vs := []) rfl rfl rfl rfl rfl rfl hk ht hg hd
--@ rule append l wl_appBo0
/-- append to nothing. -/
theorem wl_appBo0 (hx : fr.ev x = some (.slice A 0 0)) (hown : OwnBo w lo hi A 0 []) (hy : fr.ev y = some (.slice X j q)) (hr : RdBo w0 lo2 hi2 X ms) (hb : Below w0.heap.size w0 w) (hj : j = ms.length) (hlen : ms.length ≤ 1000000) (hB : lo ≤ w.heap.size)
    (h : ∀ A' c' w', OwnBo w' lo w'.heap.size A' c' ms → Below w.heap.size w w' → WL Tryd.prog fn F N ks ops tg.tail l ((d, .slice A' ms.length c') :: fr) w')
    (ht : tg.loud = true := by rfl) (hg : onG ops fr gd = true := by rfl) (hd : Nat.blt d N = true := by rfl) :
    WL Tryd.prog fn F N ks ops tg (⟨some d, .call { callee := .builtin .append, args := #[x, y], argTypes := #[54, 54] }, ty, pos, aft, gd⟩ :: l) fr w := by
  subst hj
  exact wl_appR0 Tryd.rowBo hx hown hy (hr.u hb).r (fun u hu => by obtain ⟨z, _, rfl⟩ := List.mem_map.1 hu; rfl) (by simp only [maxLen]; omega) (by omega) hB (fun A' c' w' k1 k2 => h A' c' w' k1 k2) ht hg hd
--@ rule append l wl_appBo
theorem wl_appBo (hx : fr.ev x = some (.slice A n cp)) (hown : OwnBo w lo hi A cp zs) (hn : n = zs.length) (hy : fr.ev y = some (.slice X j q)) (hr : RdBo w lo2 hi2 X ms) (hj : j = ms.length) (hlen : zs.length + ms.length ≤ 1000000) (hB : lo ≤ w.heap.size)
    (h : ∀ A' c' w', OwnBo w' lo w'.heap.size A' c' (zs ++ ms) → Grew w w' 4 (blk A) → Below lo w w' → (blk A' = blk A ∨ blk A' = some w.heap.size) → WL Tryd.prog fn F N ks ops tg.tail l ((d, .slice A' (zs ++ ms).length c') :: fr) w')
    (ht : tg.loud = true := by rfl) (hg : onG ops fr gd = true := by rfl) (hd : Nat.blt d N = true := by rfl) (hq : tg.calm = false ∨ blk A = none ∨ blk A = tg.row := by exact .inl rfl) :
    WL Tryd.prog fn F N ks ops tg (⟨some d, .call { callee := .builtin .append, args := #[x, y], argTypes := #[54, 54] }, ty, pos, aft, gd⟩ :: l) fr w := by
  subst hn; subst hj
  refine wl_appR Tryd.rowBo hx hown hy hr.r (fun u hu => by obtain ⟨z, _, rfl⟩ := List.mem_map.1 hu; rfl) (by simp only [maxLen]; omega) (by omega) hB (fun A' c' w' h1 h2 h3 h4 => ?_) ht hg hd hq
  have := h A' c' w' (by unfold OwnBo; rw [List.map_append, List.length_append]; exact h1) h2 h3 h4
  rwa [List.length_append] at this
--@ rule makeSlice l wl_mkBo
theorem wl_mkBo {C E : Int} (n : Nat) (hx : fr.ev x = some (.int k1 E)) (hy : fr.ev y = some (.int k2 C)) (hE : E = (n : Int)) (hC : C = (n : Int)) (hn : n ≤ 1000000)
    (hk : ∀ A w', OwnBo w' w.heap.size w'.heap.size A n (List.replicate n false) → Below w.heap.size w w' → WL Tryd.prog fn F N ks ops tg.tail l ((d, .slice A n n) :: fr) w')
    (ht : tg.loud = true := by rfl) (hg : onG ops fr gd = true := by rfl) (hd : Nat.blt d N = true := by rfl) : WL Tryd.prog fn F N ks ops tg (⟨some d, .makeSlice 54 x y, ty, pos, aft, gd⟩ :: l) fr w := by
  subst hC; subst hE
  obtain ⟨i, hi, hz, hs, hb'⟩ := info_parts Tryd.rowBo.hi
  obtain ⟨w', hrun, r1, r2⟩ := run_make_full (P := Tryd.prog) w w.heap.size 54 4 i _ 1 Tryd.rowBo.ht hi hz hs k1 k2 n (by rw [hb']; omega) (by simp only [maxLen]; omega) (Nat.le_refl _)
  have hbl : Below w.heap.size w w' := (Below.refl _ _).grown r2 (Nat.le_refl _) (by simp)
  have e : (madeCells (Value.bool false).cells (n * 1)).toList = (List.replicate n false).map Value.bool := by
    rw [Nat.mul_one]; exact (toList_madeCells_one _ _).trans (by simp)
  rw [e] at r1
  have ho : OwnBo w' w.heap.size w'.heap.size (some ⟨w.heap.size, 0, none⟩) n (List.replicate n false) :=
    ⟨by rw [List.length_replicate]; exact r1, fun k hk => (World.ownsRow.lt r1 k (by rw [blk_own]; exact hk)).2⟩
  exact wl_v (fun a ha o ho _ => by simp [execOp, ho, ha.ev hx, ha.ev hy, hrun]) (hk _ w' ho hbl) ht hg hd (.inr (grown_of_below hbl _))
end
end Go.Proofs.YtklijaahbahcoaaDoor
/-
  The cached sectors' numbers, sorted; rows of truth values that are read.
-/
namespace Go.Proofs.YtklijaahbahcoaaDoor
set_option maxRecDepth 100000
open Go.RowKit
/-- All sectors, one after the other. -/
def img (S : List Sec) : By := S.flatMap Subtype.val
theorem img_len : ∀ S : List Sec, (img S).length = S.length * 256
  | [] => rfl
  | s :: S => by rw [img, List.flatMap_cons, List.length_append, s.2, ← img, img_len S, List.length_cons]; omega
theorem img_snoc (S : List Sec) (s : Sec) : img (S ++ [s]) = img S ++ s.1 := by simp [img]
def ixz (C : List (Option Sec)) : List Int := (cix C).map Int.ofNat
theorem ixz_len (C : List (Option Sec)) : (ixz C).length = cnt C := by rw [ixz, List.length_map, cix_len]
theorem nat_wf {i : Nat} (h : i ≤ 9223372036854775807) : (Lit.int .i64 (i : Int)).wf = true := by
  simp only [Lit.wf, Bool.and_eq_true, decide_eq_true_eq]
  exact ⟨by show (-9223372036854775808 : Int) ≤ _; omega, by show _ ≤ (9223372036854775807 : Int); omega⟩
section
variable {fn : Func} {F : Ending → World → Prop} {N : Nat} {ks : List K} {ops : Array Oper} {tg : Tags} {l : List Oper} {fr : Fr} {w w0 : World} {ty : TypeId} {pos : String} {aft : Array Edge} {gd : Option (Nat × Bool)} {d j c lo hi : Nat} {x : Operand} {A : Option Addr} {S : List Sec}
theorem OwnSec.rdj {w : World} (h : OwnSec w lo hi A c S) (hj : j < S.length) : Rd w (some (adr A (j * 256))) S[j].1 := by
  have hc := h.cells hj
  have hA := h.some_ (by omega)
  cases A with
  | none => cases hA
  | some ad =>
    obtain ⟨xs, h1, _⟩ := h
    obtain ⟨g, cur, e, _⟩ := h1.blk_ (by omega)
    injection e with e
    subst e
    refine ⟨by rw [B8_length, Nat.mul_one], fun _ => ⟨g, j * 256, by simp [adr, add_plain], fun i u hi => ?_⟩⟩
    have := hc i u hi
    simpa [adr, add_plain] using this
--@ rule! slice l wl_slSec
/-- s[j][:] -/
theorem wl_slSec (hx : fr.ev x = some (.pointer (some (adr A (j * 256))))) (hr : OwnSec w0 lo hi A c S) (hb : Below w0.heap.size w0 w) (hj : j < S.length)
    (hk : Rd w0 (some (adr A (j * 256))) S[j].1 → WL Tryd.prog fn F N ks ops tg.tail l ((d, .slice (some (adr A (j * 256))) S[j].1.length 256) :: fr) w) (hg : onG ops fr gd = true := by rfl) (hd : Nat.blt d N = true := by rfl) :
    WL Tryd.prog fn F N ks ops tg (⟨some d, .slice 67 x none none none, ty, pos, aft, gd⟩ :: l) fr w := by
  have h := hk (hr.rdj hj)
  rw [S[j].2] at h
  exact wl_p (fun _ => o_slArrW Tryd.underlying67 Tryd.sizeOf5 hx) h hg hd
end
theorem ixz_sorted (C : List (Option Sec)) : (ixz C).Pairwise (fun x y => decide (x ≤ y) = true) :=
  List.pairwise_map.2 ((ixs_sorted 0 C).imp fun {a b} h => decide_eq_true (by show Int.ofNat a ≤ Int.ofNat b; simp only [Int.ofNat_eq_natCast]; omega))
theorem ixz_nodup (C : List (Option Sec)) : (ixz C).Nodup :=
  List.pairwise_map.2 ((ixs_sorted 0 C).imp fun {a b} h e => by simp only [Int.ofNat_eq_natCast] at e; omega)
theorem ixz_mem (C : List (Option Sec)) (x : Int) : x ∈ ixz C ↔ (cAt C x).isSome := by
  unfold ixz cAt
  rw [List.mem_map]
  constructor
  · rintro ⟨n, hn, rfl⟩
    obtain ⟨h1, h2⟩ := (cix_mem C n).1 hn
    rw [if_pos (by simp)]
    simpa [h1] using h2
  · intro h
    split at h
    · rename_i h0
      refine ⟨x.toNat, (cix_mem C _).2 ?_, by simp; omega⟩
      cases hx : C[x.toNat]? with
      | none => rw [hx] at h; cases h
      | some c =>
        obtain ⟨h1, h2⟩ := List.getElem?_eq_some_iff.1 hx
        refine ⟨h1, ?_⟩
        rw [h2]
        rw [hx] at h
        exact h
    · cases h
open Go.Maps Go.Sort Go.Shelf in
theorem Tryd.sortsA (m : Nat) : AnyZI.SortsIn Tryd.prog Tryd.sortedA_ren Fence.wide m :=
  ⟨fun blk off cap ss W hH hblk hsz => callsIn_wide.2 (AnyM.slices_Sort_int Tryd.sortA blk off cap ss W hH hblk hsz),
   fun p cap W => callsIn_wide.2 (AnyM.slices_Sort_int_none Tryd.sortA p cap W)⟩
open Go.Maps Go.Sort Go.Shelf in
theorem ixz_perm {w : World} {b : Nat} {C : List (Option Sec)} {D : DataW Unit} (hl : C.length ≤ 1000000) (hown : w.ownsMap (H := Unit) Tryd.prog 3 secElem b (cnt C) D) (hD : ∀ z, (Lit.int .i64 z).wf = true → Maps.has D (.int .i64 z) = (cAt C z).isSome ∧ ∀ s, cAt C z = some s → ∀ d, D.atKey (.int .i64 z) d = .lit (.string s.1)) :
    (ixz C).Perm (intKeys D) := by
  have hwf := intKeys_wf hown Tryd.underlying3
  refine CollectedI.perm (left := fun _ => false) ⟨ixz_nodup C, fun x => ?_⟩ hown Tryd.keyI Tryd.underlying3 (fun _ => rfl)
  rw [ixz_mem]
  constructor
  · intro h
    have hx := (ixz_mem C x).2 h
    obtain ⟨n, hn, rfl⟩ := List.mem_map.1 hx
    obtain ⟨h1, _⟩ := (cix_mem C n).1 hn
    exact ⟨by exact ((hD _ (nat_wf (i := n) (by omega))).1).trans h, rfl⟩
  · rintro ⟨h, _⟩
    have hx : x ∈ intKeys D := by
      obtain ⟨es, rfl⟩ := hown.isMap
      rw [Maps.has_eq, List.any_eq_true] at h
      obtain ⟨p, hp, hs⟩ := h
      refine List.mem_map.2 ⟨p, hp, ?_⟩
      rw [WideAt.sameKey_eq hs]; rfl
    rw [← (hD _ (hwf x hx)).1]; exact h
open Go.Maps Go.Sort Go.Shelf in
theorem C_sortedKeys {g b : Nat} {C : List (Option Sec)} {I : List Int} (w : World) (hB : Blk w g 68 [.map (some b)]) (hm : MapS w b C) (hI : ixz C = I) (hl : C.length ≤ 1000000) :
    CallsR Tryd.prog 47 [.func (.func 60) #[] #[.pointer (some ⟨g, 0, none⟩)]] w fun v w' => ∃ A c, v = .slice A I.length c ∧ OwnZ w' w.heap.size w'.heap.size A c I ∧ Below w.heap.size w w' := by
  subst hI
  have hcl := cnt_le C
  obtain ⟨D, hown, hsz, hD⟩ := hm
  refine ⟨⟨_, Tryd.func47, rfl, by kernel_rfl⟩, ?_⟩
  have hseq : SeqGives Fence.wide 2 Tryd.prog 60 #[.pointer (some ⟨g, 0, none⟩)] encZ (fun ss => ss.Perm (intKeys D)) (Maps.size D) w :=
    AnyZI.keys_gives (ρ := Tryd.keysA_ren) { Tryd.keysA with } Fence.wide _ trivial rfl (by omega) g b (cnt C) D _ hB.lt (hB.cell 0) hown
  have cS := AnyZI.sorted_in Tryd.sortedA Fence.wide 5 trivial trivial trivial trivial rfl (by omega) (Tryd.sortsA _) (enters_of Tryd.func59 (by kernel_rfl) rfl) 60 #[.pointer (some ⟨g, 0, none⟩)] trivial (enters_of Tryd.func60 (by kernel_rfl) rfl) _ _ (by rw [hsz]; simp only [maxLen]; omega) (by rw [hsz]; omega) _ hseq
  change CallsIn _ _ Tryd.prog 47 _ _ _ at cS
  refine ((callsIn_wide (n := 5)).1 cS).mono ?_
  rintro e w' ⟨v, ss, rfl, hS, hrow, hnil, hb⟩
  have hp := ixz_perm hl hown hD
  have hms : ss.mergeSort (fun x y => decide (x ≤ y)) = ixz C := by
    have h1 := Go.mergeSort_of_perm_i (hS.trans hp.symm)
    rw [h1]
    exact List.mergeSort_of_pairwise (ixz_sorted C)
  have hlen : ss.length = (ixz C).length := (hS.trans hp.symm).length_eq
  rw [hms, hlen] at hrow
  obtain ⟨A, c, rfl⟩ := ownsRow_shape hrow
  exact ⟨_, rfl, A, c, rfl, ⟨hrow, fun k hk => (World.ownsRow.lt hrow k (by rw [blk_own]; exact hk)).2⟩, hb⟩
theorem C_mapKeys {b : Nat} (w : World) :
    CallsR Tryd.prog 48 [.map (some b)] w fun v w' => ∃ g, v = .func (.func 60) #[] #[.pointer (some ⟨g, 0, none⟩)] ∧ Blk w' g 68 [.map (some b)] ∧ Below w.heap.size w w' := by
  refine callsR Tryd.func48 rfl rfl (by kernel_rfl) rfl ?_
  have hw := Below.refl w.heap.size w
  refine rk_seq ?_
  refine rk_region ?_
  refine wl_boxg [_] rfl (by rfl) ?_
  rintro g1 w1 f1 b1 i1 i1_1
  have s1 := b1.size
  replace hw := hw.trans (b1.mono hw.size)
  refine wl_p (fun _ => o_assign rfl) ?_
  refine wl_nil ?_
  refine rk_seq ?_
  refine rk_region ?_
  refine wl_p (fun _ => o_makeFunc (xs := [.tmp 1]) rfl) ?_
  refine wl_p (fun _ => o_assign rfl) ?_
  refine wl_nil ?_
  refine ret1 rfl rfl ?_
  exact ⟨_, rfl, f1, hw⟩
theorem C_dCached {lo hi g : Nat} {S : List Sec} {C : List (Option Sec)} {I : List Int} (w : World) (hd : DkAt w lo hi g S C) (hI : ixz C = I) :
    CallsR Tryd.prog 41 [.pointer (some ⟨g, 0, none⟩)] w fun v w' => ∃ A c, v = .slice A I.length c ∧ OwnZ w' w.heap.size w'.heap.size A c I ∧ Below w.heap.size w w' := by
  refine callsR Tryd.func41 rfl rfl (by kernel_rfl) rfl ?_
  have hw := Below.refl w.heap.size w
  refine rk_seq ?_
  refine rk_region ?_
  refine wl_p (fun _ => o_assign rfl) ?_
  refine wl_nil ?_
  refine rk_seq ?_
  refine rk_seq ?_
  refine rk_region ?_
  refine wl_p (fun _ => o_move rfl) ?_
  refine wl_call rfl (C_valid _ hd) ?_
  rintro v4 w4 ⟨rfl, rfl⟩
  refine wl_p (fun _ => o_not rfl) ?_
  refine wl_nil ?_
  refine rk_false rfl ?_
  refine rk_skip ?_
  refine rk_seq ?_
  refine rk_region ?_
  refine wl_p (fun _ => o_move rfl) ?_
  refine wl_p (fun _ => o_nil rfl) ?_
  refine wl_p (fun _ => o_faddr (s := 70) (i := 2) (off := 2) Tryd.underlying70 rfl Tryd.sizeOf68 rfl rfl rfl) ?_
  obtain ⟨A, c, b, f, fs, fm, h4, h5, h6⟩ := hd.ex
  have hle := hd.len
  have hn2 := hd.n2
  refine wl_r (o_loadbg Tryd.isAgg68 rfl f (by rfl)) ?_
  refine wl_call rfl (C_mapKeys _) ?_
  rintro v10 w10 ⟨g10, ⟨rfl, ⟨f10, b10⟩⟩⟩
  have s10 := b10.size
  replace hw := hw.trans (b10.mono hw.size)
  refine wl_call rfl (C_sortedKeys _ f10 (fm.u hw) hI (by omega)) ?_
  rintro v11 w11 ⟨A11, ⟨c11, ⟨rfl, ⟨f11, b11⟩⟩⟩⟩
  have qf11 := f11.cap
  have s11 := b11.size
  replace hw := hw.trans (b11.mono hw.size)
  replace f10 := f10.u b11
  refine wl_p (fun _ => o_assign rfl) ?_
  refine wl_nil ?_
  refine ret1 rfl rfl ?_
  have hsz := hw.size
  exact ⟨A11, c11, rfl, f11.base (by omega) (by omega), hw⟩
theorem C_dCachedNil (w : World) :
    CallsR Tryd.prog 41 [.pointer none] w fun v w' => v = .slice none 0 0 ∧ Below w.heap.size w w' := by
  refine callsR Tryd.func41 rfl rfl (by kernel_rfl) rfl ?_
  have hw := Below.refl w.heap.size w
  refine rk_seq ?_
  refine rk_region ?_
  refine wl_p (fun _ => o_assign rfl) ?_
  refine wl_nil ?_
  refine rk_seq ?_
  refine rk_seq ?_
  refine rk_region ?_
  refine wl_p (fun _ => o_move rfl) ?_
  refine wl_call rfl (C_validNil _) ?_
  rintro v4 w4 ⟨rfl, rfl⟩
  refine wl_p (fun _ => o_not rfl) ?_
  refine wl_nil ?_
  refine rk_true rfl ?_
  refine rk_seq ?_
  refine rk_region ?_
  refine wl_p (fun _ => o_assign rfl) ?_
  refine wl_nil ?_
  refine ret1 rfl rfl ?_
  exact ⟨rfl, hw⟩
end Go.Proofs.YtklijaahbahcoaaDoor
/-
  Slices of bytes as a type of this seat.
-/
namespace Go.Proofs.YtklijaahbahcoaaDoor
set_option maxRecDepth 100000
theorem Tryd.u8 : U8 Tryd.prog 22 := ⟨Tryd.underlying22, by kernel_rfl, Tryd.underlying5⟩
--@ side Tryd.u8
end Go.Proofs.YtklijaahbahcoaaDoor
/-
  Bytes made. No function of the program is named here.
-/
namespace Go.Proofs.YtklijaahbahcoaaDoor
set_option maxRecDepth 100000
open Go.RowKit
theorem own_max {w : World} {lo hi c : Nat} {A : Option Addr} {l : List UInt8} (h : OwnH w lo hi A c l) : c ≤ maxLen := by
  have h1 : w.ownsRow lo 5 1 (.slice A l.length c) l.length (B8 l) := h.o
  rcases h1.2 with ⟨hv, _⟩ | ⟨g, cap, cur, hv, _, _, _, hm, _⟩
  · injection hv with _ _ e; subst e; simp only [maxLen]; omega
  · injection hv with _ _ e
    subst e; exact hm
section
variable {fn : Func} {F : Ending → World → Prop} {N : Nat} {ks : List K} {ops : Array Oper} {tg : Tags} {l : List Oper} {fr : Fr} {w : World} {ty : TypeId} {pos : String} {aft : Array Edge} {gd : Option (Nat × Bool)} {d : Nat} {x y : Operand}
--@ rule makeSlice l wl_mkBz
theorem wl_mkBz {k1 k2 : IntKind} {C E : Int} {Z : List UInt8} (n : Nat) (hx : fr.ev x = some (.int k1 E)) (hy : fr.ev y = some (.int k2 C)) (hE : E = (n : Int)) (hC : C = (n : Int)) (hn : n ≤ 4000000000) (hZ : List.replicate n 0 = Z)
    (hk : ∀ A w', OwnH w' w.heap.size w'.heap.size A n Z → Below w.heap.size w w' → WL Tryd.prog fn F N ks ops tg.tail l ((d, .slice A n n) :: fr) w')
    (ht : tg.loud = true := by rfl) (hg : onG ops fr gd = true := by rfl) (hd : Nat.blt d N = true := by rfl) : WL Tryd.prog fn F N ks ops tg (⟨some d, .makeSlice 22 x y, ty, pos, aft, gd⟩ :: l) fr w := by
  subst hC; subst hE; subst hZ
  obtain ⟨i, hi, hz, hs, hb⟩ := info_parts Tryd.u8.hi
  obtain ⟨w', hrun, r1, r2⟩ := run_make_full (P := Tryd.prog) w w.heap.size 22 5 i _ 1 Tryd.u8.ht hi hz hs k1 k2 n (by rw [hb]; omega) (by simp only [maxLen]; omega) (Nat.le_refl _)
  have hbl : Below w.heap.size w w' := (Below.refl _ _).grown r2 (Nat.le_refl _) (by simp)
  have e : (madeCells (Value.int .u8 0).cells (n * 1)).toList = B8 (List.replicate n 0) := by
    rw [Nat.mul_one]; exact (toList_madeCells_one _ _).trans (by simp [B8])
  rw [e] at r1
  have ho : Own w' w.heap.size (some ⟨w.heap.size, 0, none⟩) n (List.replicate n 0) := by
    unfold Own; rw [List.length_replicate]; exact r1
  exact wl_v (fun a ha o ho _ => by simp [execOp, ho, ha.ev hx, ha.ev hy, hrun]) (hk _ w' ho.h_ hbl) ht hg hd (.inr (grown_of_below hbl _))
--@ rule makeSlice l wl_mkB
theorem wl_mkB {k1 k2 : IntKind} {C : Int} (n : Nat) (hx : fr.ev x = some (.int k1 0)) (hy : fr.ev y = some (.int k2 C)) (hC : C = (n : Int)) (hn : n ≤ 281474976710656)
    (hk : ∀ A w', OwnH w' w.heap.size w'.heap.size A n [] → Below w.heap.size w w' → WL Tryd.prog fn F N ks ops tg.tail l ((d, .slice A 0 n) :: fr) w')
    (ht : tg.loud = true := by rfl) (hg : onG ops fr gd = true := by rfl) (hd : Nat.blt d N = true := by rfl) : WL Tryd.prog fn F N ks ops tg (⟨some d, .makeSlice 22 x y, ty, pos, aft, gd⟩ :: l) fr w :=
  wl_make0 Tryd.u8 hx hy hC hn (fun w' h1 h2 _ => hk _ w' h1.h_ h2) ht hg hd
end
end Go.Proofs.YtklijaahbahcoaaDoor
