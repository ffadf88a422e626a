/-
  Walks of package sha: all pieces, one after the other.
-/
import Derived.Test.YtnnhenafhalobaaGreatMg3
import Derived.Lib.BitFns
import Derived.Laws.BitsAllLaws
import Derived.Lib.AppendStr
namespace Go.Proofs.YtnnhenafhalobaaGreat
set_option maxRecDepth 100000
open Go.RowKit
def chunkB (p : By) (i : Nat) : By := (p.drop (128 * i)).take 128
theorem chunkB_len {p : By} {M i : Nat} (hp : p.length = 128 * M) (hi : i < M) : (chunkB p i).length = 128 := by
 unfold chunkB; rw [List.length_take, List.length_drop]; omega
def runU (l : List UInt64) (p : By) : List UInt64 := (List.range (p.length / 128)).foldl (fun s i => pieceU s (chunkB p i)) l
theorem runU_len {l : List UInt64} (p : By) (hl : l.length = 8) : (runU l p).length = 8 := by
 have : ∀ (xs : List Nat) (s : List UInt64), s.length = 8 → (xs.foldl (fun s i => pieceU s (chunkB p i)) s).length = 8 := by
  intro xs
  induction xs with
  | nil => exact fun s h => h
  | cons x xs ih => exact fun s h => ih _ (pieceU_len _ h)
 exact this _ _ hl
def foldF (l : List UInt64) (p : By) {M : Nat} (xs : List (Fin M)) : List UInt64 := xs.foldl (fun s x => pieceU s (chunkB p x.val)) l
theorem foldF_len {l : List UInt64} (p : By) {M : Nat} (hl : l.length = 8) : ∀ xs : List (Fin M), (foldF l p xs).length = 8 := by
 have : ∀ (xs : List (Fin M)) (s : List UInt64), s.length = 8 → (xs.foldl (fun s x => pieceU s (chunkB p x.val)) s).length = 8 := by
  intro xs
  induction xs with
  | nil => exact fun s h => h
  | cons x xs ih => exact fun s h => ih _ (pieceU_len _ h)
 exact fun xs => this xs _ hl
theorem foldF_all (l : List UInt64) {p : By} {M : Nat} (hp : p.length = 128 * M) : foldF l p (List.finRange M) = runU l p := by
 unfold foldF runU
 rw [show p.length / 128 = M by omega]
 have : List.range M = (List.finRange M).map Fin.val := by
  apply List.ext_getElem (by simp)
  intro i h1 h2
  simp
 rw [this, List.foldl_map]
theorem padU_mul (b : By) : ∃ M, (padU b).length = 128 * M := by
 refine ⟨(padU b).length / 128, ?_⟩
 rw [padU_len]
 unfold zeros
 omega
section
variable {P : Program} {N : Nat} {fr : Fr} {w w0 : World} {ty t : TypeId} {x : Operand}
theorem o_ldChunk {ad : Addr} {p : By} {k : Nat} (ha' : ∀ w, (isAgg t).run P w = .ok true w) (hs : ∀ w, (sizeOf t).run P w = .ok 128 w) (hx : fr.ev x = some (.pointer (some (ad.add (128 * k))))) (hr : Rd w0 (some ad) p) (hb : Below w0.heap.size w0 w) (hk : 128 * k + 128 ≤ p.length) : OpV P N fr w (.load t x) ty (.agg (B8 (chunkB p k)).toArray) w := by
 have hcl : (B8 (chunkB p k)).length = 128 := by rw [B8_length]; unfold chunkB; rw [List.length_take, List.length_drop]; omega
 refine o_loadn (cs := B8 (chunkB p k)) ha' (by rw [hcl]; exact hs) hx (fun j v hj => ?_)
 have hjl : j < 128 := by
  rcases Nat.lt_or_ge j 128 with h | h
  ·exact h
  ·rw [List.getElem?_eq_none (by omega)] at hj; cases hj
 have hrd := hr.below hb
 obtain ⟨b, o, e, hc⟩ := hrd.2 (by intro e; have := congrArg List.length e; rw [B8_length, List.length_nil] at this; omega)
 injection e with e
 subst e
 have := hc (128 * k + j) v (by
  unfold chunkB B8 at hj
  rw [List.getElem?_map, List.getElem?_take_of_lt hjl, List.getElem?_drop] at hj
  unfold B8
  rw [List.getElem?_map]; exact hj)
 rw [add_of_add, add_plain]
 exact this
end
theorem blk_noncell {B g : Nat} {W W' : World} {t : TypeId} {cs : List Value} {row : Option Nat} (h : Blk W g t cs) (hg : W.grownBy W' row) (hr : ∀ r, row = some r → B ≤ r ∧ ∃ o : Obj, W.heap[r]? = some o ∧ o.isCells = false) : Blk W' g t cs :=
 h.grown hg (fun e => by
  obtain ⟨_, o, ho, hc⟩ := hr g e.symm
  rw [show W.heap[g]? = _ from h] at ho
  injection ho with ho
  subst ho; cases hc)
theorem rdT_noncell {B : Nat} {W W' : World} {A : Option Addr} {p : By} {row : Option Nat} (h : RdT W A p) (hg : W.grownBy W' row) (hr : ∀ r, row = some r → B ≤ r ∧ ∃ o : Obj, W.heap[r]? = some o ∧ o.isCells = false) : RdT W' A p := by
 have hne : ∀ k, blk A = some k → some k ≠ row := fun k hk e => by
  obtain ⟨_, o, ho, hc⟩ := hr k e.symm
  obtain ⟨cs, f, hcs⟩ := h.2 k hk
  rw [hcs] at ho
  injection ho with ho
  subst ho; cases hc
 refine ⟨h.1.grown hg ?_, fun k hk => (h.2 k hk).keep (hg.block k (h.2 k hk).lt (hne k hk))⟩
 cases hA : blk A with
 | none => exact .inl rfl
 | some k => exact .inr (hne k hA)
theorem eval_defers (a : Act) (ds : List Deferred) : ({ tmps := a.tmps, defers := ds } : Act).eval = a.eval := by
 funext x; cases x <;> rfl
theorem opU_store {P : Program} {N n g : Nat} {fr : Fr} {w : World} {t t' : TypeId} {x y : Operand} {vs cs : List Value} (hs : ∀ w, (sizeOf t).run P w = .ok n w) (hx : fr.ev x = some (.pointer (some ⟨g, 0, none⟩))) (hy : fr.ev y = some (.agg vs.toArray)) (hn : vs.length = n) (h1 : ∀ v ∈ vs, v.oneCell' = true) (hB : Blk w g t' cs) (hi : cs.length = n) :
  ∃ w', OpU P N fr w (.store t x y) w' ∧ Blk w' g t' vs ∧ w.grownBy w' (some g) := by
 obtain ⟨w', hr, hB', hg', hz⟩ := run_storeCells_blk (P := P) (o := 0) vs 0 cs w hB h1 (by omega)
 refine ⟨w', fun a ha op hop => ?_, by rw [spl_all (by omega)] at hB'; exact hB', hg'⟩
 have hcs : (Value.agg vs.toArray).cells = vs.toArray := rfl
 simp [execOp, hop, ha.ev hx, ha.ev hy, Instr.storeAt, Instr.sureAddr, storeVar, hcs, hs, hn, hr]
theorem res_cell {P : Program} {fn : Func} {p n g : Nat} {t t' : TypeId} {w : World} {cs : List Value} {tmps : Array Value} (h : fn.results = #[.cell p t]) (hp : tmps[p]?.getD undef = .pointer (some ⟨g, 0, none⟩)) (ha' : ∀ w, (isAgg t).run P w = .ok true w) (hs : ∀ w, (sizeOf t).run P w = .ok n w) (hB : Blk w g t' cs) (hn : cs.length = n) :
  (results fn tmps).run P w = .ok (.agg cs.toArray) w := by
 subst hn
 have hl : (loadCells ⟨g, 0, none⟩ cs.length).run P w = .ok cs.toArray w := run_loadCells_list (P := P) w ⟨g, 0, none⟩ cs (fun j u hu => by rw [add_plain, hB.cell, Nat.zero_add]; exact hu)
 simp [results, h, hp, asAddr, loadVar, ha', hs, hl]
set_option maxHeartbeats 1000000 in
theorem C_whole {l : List UInt64} {A : Option Addr} {L : List By} {r : List UInt64} {n c : Nat} (w : World) (hK : RKy w A L) (hr : runU l (padU L.flatten) = r) (hl : l.length = 8) (hn : n = L.length) (hL : L.length ≤ 40) (hL2 : ∀ x ∈ L, x.length ≤ 10000) :
  CallsR Tryz.prog 102 [.agg (vU l).toArray, .slice A n c] w fun v w' => v = .agg (vU r).toArray ∧ Below w.heap.size w w' := by
 subst hn
 refine ⟨⟨_, Tryz.func102, rfl, by kernel_rfl⟩, ?_⟩
 obtain ⟨p, hp⟩ : ∃ p, padU L.flatten = p := ⟨_, rfl⟩
 have hpm := padU_mul L.flatten
 have hpl : p.length = L.flatten.length + 17 + zeros L.flatten.length := by rw [← hp, padU_len]
 have hfl := flatten_le L 10000 hL2
 have hzl := zeros_lt L.flatten.length
 rw [hp] at hpm hr
 obtain ⟨M, hM⟩ := hpm
 refine (callsIn_wide (n := 3)).1 (callsIn_of_wp_marks Tryz.func102 rfl trivial ?_)
 refine seq3_of_rk (fn := Tryz.f102) (I := fun a w' => ∃ g2 g4 g h ad c7, Rep Tryz.f102.ntmps a [(8, .func (.func 97) #[] #[.pointer (some ⟨g, 0, none⟩), .pointer (some ⟨h, 0, none⟩)]), (4, .pointer (some ⟨g4, 0, none⟩)), (2, .pointer (some ⟨g2, 0, none⟩))] ∧ Blk w' g2 141 (vU l) ∧ Blk w' g4 141 (vU (List.replicate 8 0)) ∧ Blk w' g 35 [.slice (some ad) (128 * M) c7] ∧ Blk w' h 3 [.int .i64 128] ∧ RdT w' (some ad) p ∧ w.heap.size ≤ g2 ∧ w.heap.size ≤ g4 ∧ g2 ≠ g4 ∧ g2 ≠ g ∧ g2 ≠ h ∧ 128 * M ≤ c7 ∧ Below w.heap.size w w') ?_ (entry_rep rfl) ?_
 ·have hw := Below.refl w.heap.size w
  refine rk_region ?_
  refine wl_boxg _ rfl (by rfl) ?_
  rintro g2 w2 f2 b2 i2 i2_1
  have s2 := b2.size
  replace hw := hw.trans (b2.mono hw.size)
  refine wl_allocU Tryz.underlying141 Tryz.zeroValue141 (by rfl) ?_
  rintro g4 w4 f4 b4 i4 i4_1
  have s4 := b4.size
  replace hw := hw.trans (b4.mono hw.size)
  replace f2 := f2.u b4
  refine wl_nil (rk_region (zm rfl ?_))
  refine wl_call rfl (C_padded _ (hK.u hw) hp rfl (by omega) (by omega)) ?_
  rintro v7 w7 ⟨A7, ⟨c7, ⟨rfl, ⟨f7, b7⟩⟩⟩⟩
  have qf7 := f7.cap
  have s7 := b7.size
  replace hw := hw.trans (b7.mono hw.size)
  replace f2 := f2.u b7
  replace f4 := f4.u b7
  refine wl_call rfl (C_Chunk _) ?_
  rintro v8 w8 ⟨g8, ⟨h8, ⟨rfl, ⟨f8, ⟨f8_1, ⟨i8, ⟨i8_1, ⟨i8_2, ⟨i8_3, b8⟩⟩⟩⟩⟩⟩⟩⟩⟩
  have s8 := b8.size
  replace hw := hw.trans (b8.mono hw.size)
  replace f4 := f4.u b8
  replace f2 := f2.u b8
  replace f7 := f7.u b8
  refine wl_nil ?_
  refine rk_inv fun a ha => ?_
  have hq := f7.cap
  obtain ⟨b, o, rfl, _⟩ := f7.to_Rd.2 (by intro e; have := congrArg List.length e; rw [B8_length, List.length_nil] at this; omega)
  refine ⟨g2, g4, g8, h8, ⟨b, o, none⟩, c7, ha.le (Fr.le_of_sub (by repeat' constructor)), f2, f4, by rw [← hM]; exact f8, f8_1, f7.to_RdT, by omega, by omega, by omega, by omega, by omega, by omega, hw⟩
 ·rintro a1 w1 ⟨g2, g4, g, h, ad, c7, ha, f2, f4, fg, fh, fp, n1, n2, n3, n4, n5, n6, hw⟩
  have hg1 := fg.lt
  have hh1 := fh.lt
  have hM2 : M ≤ 10000 := by omega
  refine wpIn_block ?_
  refine wpIn_rangeFunc_ownF (α := Fin M) rfl (by decide) (gf := 97) (lb := #[.pointer (some ⟨g, 0, none⟩), .pointer (some ⟨h, 0, none⟩)]) (ha.ev rfl) trivial (enters_of Tryz.func97 (by kernel_rfl) rfl) (encs := encs (some ad) M) (Kp := KpB g h) (S := fun xs => xs = List.finRange M) (Sp := fun _ => True) (N := M) (w0 := w1)
   (chunk_stops (by decide) w1 fg fh n6 hM2) (fun h k => ⟨k.1.trans h.1, k.2.trans h.2⟩) (fun W l o o' hl _ _ _ => ⟨World.putObj_heap_other (by omega), World.putObj_heap_other (by omega)⟩) (Below.refl _ _) (fun _ => rfl)
   (fun pre W => Blk W g2 141 (vU (foldF l p pre)) ∧ Blk W g4 141 (vU (List.replicate 8 0)) ∧ RdT W (some ad) p ∧ Below w.heap.size w W ∧ w1.heap.size ≤ W.heap.size) (fun _ _ _ => False)
   (fun s X Y row hs hg hr => ⟨blk_noncell hs.1 hg hr, blk_noncell hs.2.1 hg hr, rdT_noncell hs.2.2.1 hg hr, hs.2.2.2.1.grown hg hs.2.2.2.1.size (fun k e => by have := (hr k e).1; have := hw.size; omega), Nat.le_trans hs.2.2.2.2 hg.size⟩)
   (fun _ _ _ _ _ hs _ _ => hs) ⟨f2, f4, fp, hw, Nat.le_refl _⟩
   (fun x => (a1.put (some 9) (.slice (some (ad.add (128 * x.val))) 128 128)).put (some 5) (.slice (some (ad.add (128 * x.val))) 128 128)) ?assign ?body ?done ?stop
  case assign =>
   intro l x W K hKK
   have hrep := ha.put (d := 9) rfl (.slice (some (ad.add (128 * x.val))) 128 128)
   have e : ({ tmps := (#[9].zip (encs (some ad) M x)).foldl (fun t (p, v) => t.setIfInBounds p v) a1.tmps, defers := [] } : Act) = a1.put (some 9) (.slice (some (ad.add (128 * x.val))) 128 128) := by
    simp [encs, Act.put, ha.defers]
   rw [e]
   refine wpIn_region_lit (wpListIn_plain rfl (fun K' hK' => ⟨fun _ _ => trivial, ?_⟩))
   have hrun := (o_assign (P := Tryz.prog) (w := W) (ty := 35) (x := .tmp 9) rfl : OpV Tryz.prog _ _ W _ 35 (.slice (some (ad.add (128 * x.val))) 128 128) W) _ hrep
   show Oper.uponIn _ _ _ _ _ _ _ (Sem.run Tryz.prog (Oper.semAt (some l) _ _) W)
   rw [semAt_plain rfl, hrun _ rfl rfl]
   exact hK' _ _ (wpListIn_nil hKK)
  case body =>
   clear f2 f4 fp
   rintro l0 pre x W ⟨f2, f4, fp, hW, hW1⟩ _
   have hxM := x.isLt
   have hrep : Rep Tryz.f102.ntmps ((a1.put (some 9) (.slice (some (ad.add (128 * x.val))) 128 128)).put (some 5) (.slice (some (ad.add (128 * x.val))) 128 128)) [(5, .slice (some (ad.add (128 * x.val))) 128 128), (2, .pointer (some ⟨g2, 0, none⟩))] :=
    ((ha.put (d := 9) rfl _).put (d := 5) rfl _).le (Fr.le_of_sub (by repeat' constructor))
   have hlf := foldF_len p hl pre
   have hkk : 128 * x.val + 128 ≤ p.length := by omega
   have hcl := chunkB_len (i := x.val) hM hxM
   refine wpIn_block (wpIn_mono ((?_ : RIn Tryz.prog Tryz.f102 Tryz.f102.ntmps (fun _ W' => KeepsOthers W W' ∧ KpB g h W W' ∧ Blk W' g2 141 (vU (foldF l p (pre ++ [x]))) ∧ Blk W' g4 141 (vU (List.replicate 8 0)) ∧ RdT W' (some ad) p ∧ Below w.heap.size w W' ∧ w1.heap.size ≤ W'.heap.size) l0 1 _ _ W) _ hrep) (fun e a w he => ?_))
   ·have hpl8 : (pieceU (foldF l p pre) (chunkB p x.val)).length = 8 := pieceU_len _ hlf
    clear hw fg fh ha hrep
    refine in_draw (id := 3) (none) [0, 0, 2, 4, 9, 31] [0, 0, 2, 6, 15, 31] 48 0 [(.r, 0), (.p, 1), (.p, 2), (.r, 3), (.l, 4), (.l, 5)] (by kernel_rfl) (by kernel_rfl) (by kernel_rfl) (by kernel_rfl) (by kernel_rfl) ?_
    replace f2 := f2.d
    replace f4 := f4.d
    replace fp := fp.d
    have hw := hW.drew
    have hWw := hW.size
    refine wl_r (o_ldUa Tryz.isAgg141 Tryz.sizeOf141 rfl f2 hlf) ?_
    refine zm rfl ?_
    refine zp (o_arrptr Tryz.underlying161 rfl (by omega)) ?_
    refine wl_r (o_ldChunk Tryz.isAgg161 Tryz.sizeOf161 rfl fp.to_Rd (Below.refl _ _) (by omega)) ?_
    refine wl_call rfl (C_Piece _ (by rfl) hlf hcl) ?_
    rintro v14 w14 ⟨rfl, b14⟩
    simp only [drew_size] at b14
    have s14 := b14.size
    simp only [drew_size] at s14
    replace hw := hw.trans (b14.mono hw.size)
    replace fp := fp.u b14
    replace f4 := f4.u b14
    replace f2 := f2.u b14
    refine wl_stUa Tryz.sizeOf141 rfl f2 rfl hpl8 hlf ?_
    rintro w_1 f g_1 e
    have s := g_1.size
    replace hw := hw.trans (below_of_grownBy g_1.g hw.size (by omega))
    replace f4 := f4.k g_1.g (ap_some (by omega))
    replace fp := fp.y g_1 (by decide)
    clear f2
    refine wl_nild ?_
    refine rk_inv fun a ha => ?_
    have hB : Below W.drew.heap.size W.drew w14 := by assumption
    have hG : Grew w14 w_1 141 (some g2) := by assumption
    have hs1 := hB.size
    have hs2 := hG.g.size
    have hs0 : W.drew.heap.size = W.heap.size := rfl
    refine ⟨(KeepsOthers.drew W).trans ((KeepsOthers.of_grownBy (grown_of_below hB none) (fun j o e => by cases e)).trans (KeepsOthers.of_grownBy hG.g (fun j o e ho => ?_))), ⟨?_, ?_⟩, ?_, f4, fp, hw, by omega⟩
    ·obtain ⟨cs, f, hcs⟩ := hG.2 j e
     rw [hcs] at ho
     injection ho with ho
     subst ho; rfl
    ·rw [hG.g.block g (by omega) (by intro e; injection e with e; omega), hB.block g (by omega)]; rfl
    ·rw [hG.g.block h (by omega) (by intro e; injection e with e; omega), hB.block h (by omega)]; rfl
    ·rw [show foldF l p (pre ++ [x]) = pieceU (foldF l p pre) (chunkB p x.val) by simp [foldF, List.foldl_append]]
     exact f
   ·obtain ⟨rfl, h1, h2, h3⟩ := kpost_inv he
    exact ⟨h1, h2, h3⟩
  case done =>
   rintro D xs W hD rfl ⟨e2, e4, ep, hW, hW1⟩ hKD
   rw [foldF_all l hM, hr] at e2
   have hr8 : r.length = 8 := by rw [← hr]; exact runU_len p hl
   have hg2 := f2.lt
   have hg4 := f4.lt
   show Code.wpIn Fence.wide 3 Tryz.prog _ _ { tmps := a1.tmps, defers := _ } W
   refine wpIn_seq (wpIn_region_lit (wpListIn_plain rfl (fun K hK => ⟨fun _ _ => trivial, ?_⟩)))
   have hrun := (o_ldUa (P := Tryz.prog) (N := Tryz.f102.ntmps) (ty := 141) (x := .tmp 2) Tryz.isAgg141 Tryz.sizeOf141 rfl e2 hr8 : OpV Tryz.prog _ [(8, _), (4, _), (2, _)] W _ _ _ W) _ ha
   have hsem : ∀ (ρ : Operand → Value) (o : Oper), o.semAt Fence.wide.round ρ = execOp ρ o := fun _ _ => rfl
   rw [hsem, eval_defers, hrun _ rfl rfl]
   refine hK _ _ ?_
   have ha2 := ha.put (d := 15) rfl (.agg (vU r).toArray)
   obtain ⟨w2, hst, hB2, hgr⟩ := opU_store (P := Tryz.prog) (N := Tryz.f102.ntmps) (fr := (15, .agg (vU r).toArray) :: [(8, .func (.func 97) #[] #[.pointer (some ⟨g, 0, none⟩), .pointer (some ⟨h, 0, none⟩)]), (4, .pointer (some ⟨g4, 0, none⟩)), (2, .pointer (some ⟨g2, 0, none⟩))]) (x := .tmp 4) (y := .tmp 15) Tryz.sizeOf141 rfl rfl (by rw [vU_length, hr8]) (vU_one r) e4 (by rw [vU_length, List.length_replicate])
   refine wpListIn_plain rfl (fun K hK => ⟨fun _ _ => trivial, ?_⟩)
   rw [hsem, show Act.eval (Act.put _ _ _) = (a1.put (some 15) (.agg (vU r).toArray)).eval by funext x; cases x <;> rfl, hst _ ha2 _ rfl]
   refine hK _ _ (wpListIn_nil (wpIn_ret ?_))
   have hDne : D ≠ g4 := by omega
   have hDlt : D < W.heap.size := (Array.getElem?_eq_some_iff.1 hKD).1
   have hKD2 : w2.heap[D]? = some (.deferred (some [])) := (hgr.block D hDlt (by intro e; injection e with e; omega)).trans hKD
   show LeavesInM Fence.wide 3 Tryz.prog _ (a1.put (some 15) (.agg (vU r).toArray)).tmps _ (_ :: a1.defers) .returning w2
   rw [ha.defers]
   refine ⟨by simp, .inl ⟨D, _, rfl, run_takeDeferred hKD2, ?_⟩⟩
   have hB3 : Blk (w2.putObj D (.deferred none)) g4 141 (vU r) := (World.putObj_heap_other (Ne.symm hDne)).trans hB2
   have hb2 := hW.grown hgr hW.size (fun k e => by injection e with e; omega)
   have hb3 := hb2.grown (grownBy_putObj' w2 D (.deferred none)) hb2.size (fun k e => by injection e with e; have := hw.size; omega)
   exact ⟨_, res_cell rfl (by rw [ha2.get 4 _ rfl]; rfl) Tryz.isAgg141 Tryz.sizeOf141 hB3 (by rw [vU_length, hr8]), _, rfl, rfl, hb3⟩
  case stop => exact fun D c pre W _ _ h _ => h.elim
end Go.Proofs.YtnnhenafhalobaaGreat
namespace Go.Proofs.YtnnhenafhalobaaGreat
set_option maxRecDepth 100000
open Go.RowKit
section
variable {P : Program} {fn : Func} {F : Ending → World → Prop} {N : Nat} {ks : List K} {ops : Array Oper} {tg : Tags} {l : List Oper} {fr : Fr} {w : World} {ty t t' : TypeId} {pos : String} {aft : Array Edge} {gd : Option (Nat × Bool)} {d n g : Nat} {x y z : Operand} {h : Int} {kh : IntKind}
theorem rd_pre {c : By} (hB : Blk w g t' (B8 c)) (k : Nat) : Rd w (some ⟨g, 0, none⟩) (c.take k) := by
 refine ⟨by rw [B8_length, Nat.mul_one], fun _ => ⟨g, 0, rfl, fun j u hj => ?_⟩⟩
 rw [Nat.zero_add, hB.cell]
 unfold B8 at hj ⊢
 rw [List.getElem?_map] at hj ⊢
 rcases Nat.lt_or_ge j k with h | h
 ·rw [List.getElem?_take_of_lt h] at hj; exact hj
 ·rw [List.getElem?_eq_none (by rw [List.length_take]; omega)] at hj; cases hj
theorem wl_slArrHi {c : By} (k : Nat) (hu : P.underlying t = some (.array n 5)) (hs : ∀ w, (sizeOf 5).run P w = .ok 1 w) (hx : fr.ev x = some (.pointer (some ⟨g, 0, none⟩))) (hB : Blk w g t' (B8 c)) (hz : fr.ev z = some (.int kh h)) (hh : h = (k : Int)) (hk : k ≤ n)
  (hK : Rd w (some ⟨g, 0, none⟩) (c.take k) → WL P fn F N ks ops tg.tail l ((d, .slice (some ⟨g, 0, none⟩) k n) :: fr) w)
  (ht : tg.reads = true := by rfl) (hg : onG ops fr gd = true := by rfl) (hd : Nat.blt d N = true := by rfl) : WL P fn F N ks ops tg (⟨some d, .slice t x none (some z) none, ty, pos, aft, gd⟩ :: l) fr w := by
 subst hh
 refine wl_r (fun a ha op hop _ => ?_) (hK (rd_pre hB k)) ht hg hd
 simp [execOp, hop, ha.ev hx, ha.ev hz, Instr.sliceAt, Instr.sureAddr, run_underlying hu, Instr.sliceBounds, Instr.sliceBound, asIntOf, hs, hk, Addr.add]
theorem o_ldBpre {c : By} (ha' : ∀ w, (isAgg t).run P w = .ok true w) (hs : ∀ w, (sizeOf t).run P w = .ok n w) (hx : fr.ev x = some (.pointer (some ⟨g, 0, none⟩))) (hB : Blk w g t' (B8 c)) (hn : n ≤ c.length) : OpV P N fr w (.load t x) ty (.agg (B8 (c.take n)).toArray) w := by
 have hl : (B8 (c.take n)).length = n := by rw [B8_length, List.length_take]; omega
 refine o_loadn (cs := B8 (c.take n)) ha' (by rw [hl]; exact hs) hx (fun j v hj => ?_)
 obtain ⟨b, o, e, hc⟩ := (rd_pre hB n).2 (by intro e; rw [e] at hj; cases hj)
 injection e with e
 injection e with e1 e2
 subst e1; subst e2
 rw [add_plain]
 exact hc j v hj
end
section
variable {fn : Func} {F : Ending → World → Prop} {N : Nat} {ks : List K} {ops : Array Oper} {tg : Tags} {l : List Oper} {fr : Fr} {w : World} {ty : TypeId} {pos : String} {aft : Array Edge} {gd : Option (Nat × Bool)} {d : Nat}
theorem Tryz.rowKey : RowT Tryz.prog 72 35 (.slice none 0 0) 1 24 := ⟨Tryz.underlying72, by kernel_rfl, rfl, by omega⟩
theorem wl_litK1 {ps : Array (Nat × Operand)} {xs : List Operand} {A1 : Option Addr} {n1 c1 : Nat} {p1 : By} (hxs : ps.toList.map Prod.snd = xs) (hx : fr.evs xs = some [.slice A1 n1 c1]) (h1 : RdT w A1 p1) (hn1 : n1 = p1.length) (hc1 : p1.length ≤ c1) (hm1 : c1 ≤ 9223372036854775807) (hps : ps = ((List.range' 0 1).zip xs).toArray)
  (hk : ∀ A w', RKy w' A [p1] → Below w.heap.size w w' → WL Tryz.prog fn F N ks ops tg.tail l ((d, .slice A 1 1) :: fr) w')
  (ht : tg.loud = true := by rfl) (hg : onG ops fr gd = true := by rfl) (hd : Nat.blt d N = true := by rfl) : WL Tryz.prog fn F N ks ops tg (⟨some d, .buildSlice 72 1 ps, ty, pos, aft, gd⟩ :: l) fr w := by
 subst hn1
 refine wl_litS (X := gBytes) (L := [p1]) Tryz.rowKey Tryz.sizeOf35 Tryz.zeroValue35 hxs hps hx rfl rfl (fun i h => ?_) rfl (fun A w' h1 h2 => hk A w' h1.to_RSl h2) ht hg hd
 obtain rfl : i = 0 := by simp at h; omega
 exact ⟨_, rfl, rfl, A1, c1, rfl, h1, hc1, by simp only [maxLen]; omega⟩
end
def Tl : List UInt64 := Sl.map (· ^^^ 11936128518282651045)
theorem Tl_len : Tl.length = 8 := rfl
def nameB : By := [83, 72, 65, 45, 53, 49, 50, 47, 50, 53, 54]
def Ul : List UInt64 := runU Tl (padU nameB)
theorem Ul_len : Ul.length = 8 := runU_len _ Tl_len
theorem map_next {f : UInt64 → UInt64} {l q : List UInt64} {i : Nat} (hq : q = (l.map f).take i ++ l.drop i) (h1 : i < q.length) (h2 : i < l.length) : q.set i (f q[i]) = (l.map f).take (i + 1) ++ l.drop (i + 1) := by
 have ht : ((l.map f).take i).length = i := by rw [List.length_take, List.length_map]; omega
 have hqi : q[i] = l[i] := by
  subst hq
  rw [List.getElem_append_right (by omega)]
  simp only [ht, Nat.sub_self, List.getElem_drop, Nat.add_zero]
 rw [hqi, hq, List.set_append_right _ _ (by omega), ht, Nat.sub_self, List.drop_eq_getElem_cons h2, List.set_cons_zero, List.take_succ_eq_append_getElem (by rw [List.length_map]; exact h2), List.getElem_map, List.append_assoc]
 rfl
set_option maxHeartbeats 1000000 in
set_option maxRecDepth 100000 in
theorem C_StartShort {r : List UInt64} (w : World) (hr : Ul = r) :
  CallsR Tryz.prog 103 [] w fun v w' => v = .agg (vU r).toArray ∧ Below w.heap.size w w' := by
 have hr8 : r.length = 8 := by rw [← hr]; exact Ul_len
 have hr2 : runU Tl (padU [nameB].flatten) = r := by rw [← hr]; rfl
 have hS8 : Sl.length = 8 := Sl_len
 obtain ⟨tl, htl⟩ : ∃ tl, Tl = tl := ⟨_, rfl⟩
 obtain ⟨sl, hsl⟩ : ∃ sl, Sl = sl := ⟨_, rfl⟩
 have hts : sl.map (· ^^^ 11936128518282651045) = tl := by rw [← htl, ← hsl]; rfl
 have ht8 : tl.length = 8 := by rw [← htl]; rfl
 rw [htl] at hr2
 rw [hsl] at hS8
 refine callsR Tryz.func103 rfl rfl (by kernel_rfl) rfl ?_
 have hw := Below.refl w.heap.size w
 refine zs ?_
 refine wl_allocU Tryz.underlying141 Tryz.zeroValue141 (by rfl) ?_
 rintro g0 w0 f0 b0 i0 i0_1
 have s0 := b0.size
 replace hw := hw.trans (b0.mono hw.size)
 refine wl_nil (zs ?_)
 refine wl_call rfl (C_Start _) ?_
 rintro v3 w3 ⟨rfl, b3⟩
 have s3 := b3.size
 replace hw := hw.trans (b3.mono hw.size)
 replace f0 := f0.u b3
 refine wl_allocU Tryz.underlying141 Tryz.zeroValue141 (by rfl) ?_
 rintro g1 w1 f1 b1 i1 i1_1
 have s1 := b1.size
 replace hw := hw.trans (b1.mono hw.size)
 replace f0 := f0.u b1
 refine wl_stUa Tryz.sizeOf141 rfl f1 rfl (by rfl) (by rfl) ?_
 rintro w_1 f g e
 have s := g.size
 replace hw := hw.trans (below_of_grownBy g.g hw.size (by omega))
 replace f0 := f0.k g.g (ap_some (by omega))
 clear f1
 refine wl_nil (rk_seq (zs (zm rfl (wl_nil (rk_block ?_)))))
 rw [hsl] at f
 refine rk_joinf (fun fb fr w2 => fr = [] ++ fb.drop 1 ∧ Blk w2 g1 141 (vU tl) ∧ Blk w2 g0 141 (vU (List.replicate 8 0)) ∧ w_1.heap.size ≤ w2.heap.size ∧ Below w.heap.size w w2) ?_ (fun ks hj => ?_)
 rotate_left
 ·refine rk_loopf (fun fb m fr w2 => ∃ (i : Nat) (v : Int) (q : List UInt64), fr = [(4, .int .i64 v)] ++ fb ∧ v = i ∧ i ≤ 8 ∧ m = 8 - i ∧ q = (sl.map (· ^^^ 11936128518282651045)).take i ++ sl.drop i ∧ Blk w2 g1 141 (vU q) ∧ Blk w2 g0 141 (vU (List.replicate 8 0)) ∧ w_1.heap.size ≤ w2.heap.size ∧ Below w.heap.size w w2) (n := 8) (Fr.le_of (by kernel_rfl) (by kernel_rfl) (by repeat' constructor)) ⟨0, _, _, rfl, rfl, by omega, rfl, rfl, f, f0, Nat.le_refl _, hw⟩ ?_
  clear hw f f0
  rintro m fr w2 ⟨i, v, q, rfl, rfl, hi, rfl, hq, f, f0, hsz, hw⟩
  have shw := hw.size
  have hql : q.length = 8 := by
   rw [hq, List.length_append, List.length_take, List.length_map, List.length_drop]; omega
  first | refine zf ?_ | refine zg ?_
  refine zs ?_
  refine zp (o_lt rfl rfl) ?_
  refine wl_nil (rk_seq ?_)
  refine rk_if rfl (fun h5 => ?_) (fun h5 => ?_)
  ·have hil : i < q.length := by omega
   have e1 : bits .xor .u64 (q[i].toNat : Int) 11936128518282651045 = ((q[i] ^^^ 11936128518282651045).toNat : Int) := by
    rw [UInt64.toNat_xor]; exact bits_xor_u64_nat q[i].toNat 11936128518282651045 (u64_lt _) (by decide)
   refine rk_skip (rk_seq (rk_block (zs (zm rfl (za rfl (wl_nil (rk_region (zm rfl ?_))))))))
   refine zp (o_iaddrP (i) Tryz.underlying141 Tryz.sizeOf52 rfl rfl rfl (by omega)) ?_
   refine wl_r (o_ldU Tryz.isAgg52 rfl f (by omega)) ?_
   refine zp (o_xor rfl rfl) ?_
   refine zp (o_iaddrP (i) Tryz.underlying141 Tryz.sizeOf52 rfl rfl rfl (by omega)) ?_
   rw [e1]
   refine wl_stU Tryz.sizeOf52 rfl f rfl (by omega) ?_
   rintro w_2 f_1 g_1 e_1
   have s_1 := g_1.size
   replace hw := hw.trans (below_of_grownBy g_1.g hw.size (by omega))
   replace f0 := f0.k g_1.g (ap_some (by omega))
   clear f
   refine wl_nil ?_
   refine rk_blk ?_
   refine rk_region ?_
   refine zp (o_add rfl rfl (by omega) (by omega)) ?_
   refine zm rfl (wl_nil ?_)
   exact rk_againf (Fr.le_of (by kernel_rfl) (by kernel_rfl) (by repeat' constructor)) ⟨i + 1, (i : Int) + 1, _, rfl, by omega, by omega, rfl, map_next (f := (· ^^^ 11936128518282651045)) hq hil (by omega), f_1, f0, by omega, hw⟩ (by omega)
  ·refine rk_exit rfl ?_
   obtain rfl : i = 8 := by omega
   rw [List.take_of_length_le (by rw [List.length_map]; omega), List.drop_of_length_le (by omega), List.append_nil, hts] at hq
   subst hq
   exact rk_tof hj (Fr.le_of (by kernel_rfl) (by kernel_rfl) (by repeat' constructor)) ⟨rfl, f, f0, hsz, hw⟩
 clear hw f f0
 rintro fr w2 ⟨rfl, f, f0, hsz, hw⟩
 have shw := hw.size
 have hn2 : ∀ x ∈ ([[83, 72, 65, 45, 53, 49, 50, 47, 50, 53, 54]] : List By), x.length ≤ 10000 := fun x hx => by
  rw [List.mem_singleton] at hx; subst hx; decide
 have hr3 : runU tl (padU ([[83, 72, 65, 45, 53, 49, 50, 47, 50, 53, 54]] : List By).flatten) = r := hr2
 first | refine zf ?_ | refine zg ?_
 refine zs ?_
 refine wl_r (o_ldUa Tryz.isAgg141 Tryz.sizeOf141 rfl f ht8) ?_
 refine wl_litC [83, 72, 65, 45, 53, 49, 50, 47, 50, 53, 54] Tryz.u8 Tryz.sizeOf5 Tryz.zeroValue5 (by rfl) rfl rfl (by rfl) (by rfl) (by rfl) ?_
 rintro A14 w14 f14 b14
 have s14 := b14.size
 replace hw := hw.trans (b14.mono hw.size)
 replace f0 := f0.u b14
 replace f := f.u b14
 refine wl_litK1 (by rfl) rfl f14 (by rfl) (by simp) (by omega) (by rfl) ?_
 rintro A16 w16 f16 b16
 have s16 := b16.size
 replace hw := hw.trans (b16.mono hw.size)
 replace f := f.u b16
 replace f0 := f0.u b16
 replace f14 := f14.u b16
 refine wl_call rfl (C_whole _ f16 hr3 ht8 (by rfl) (by simp) (by omega)) ?_
 rintro v17 w17 ⟨rfl, b17⟩
 have s17 := b17.size
 replace hw := hw.trans (b17.mono hw.size)
 replace f14 := f14.u b17
 replace f0 := f0.u b17
 replace f := f.u b17
 replace f16 := f16.u b17
 refine wl_stUa Tryz.sizeOf141 rfl f0 rfl hr8 (by rfl) ?_
 rintro w_2 f_1 g_1 e_1
 have s_1 := g_1.size
 replace hw := hw.trans (below_of_grownBy g_1.g hw.size (by omega))
 replace f := f.k g_1.g (ap_some (by omega))
 replace f14 := f14.y g_1 (by decide)
 clear f16
 clear f0
 refine wl_nil ?_
 refine ret_cell rfl rfl Tryz.isAgg141 Tryz.sizeOf141 f_1 (by rw [vU_length, hr8]) ?_
 exact ⟨rfl, hw⟩
set_option maxRecDepth 100000 in
theorem C_Sum {A : Option Addr} {L : List By} {r : By} {n c : Nat} (w : World) (hK : RKy w A L) (hr : (bytesU (runU Ul (padU L.flatten))).take 32 = r) (hn : n = L.length) (hL : L.length ≤ 40) (hL2 : ∀ x ∈ L, x.length ≤ 10000) :
  CallsR Tryz.prog 78 [.slice A n c] w fun v w' => v = .agg (B8 r).toArray ∧ Below w.heap.size w w' := by
 subst hn
 obtain ⟨u, hu⟩ : ∃ u, Ul = u := ⟨_, rfl⟩
 have hu8 : u.length = 8 := by rw [← hu]; exact Ul_len
 rw [hu] at hr
 obtain ⟨r1, h1⟩ : ∃ r1, runU u (padU L.flatten) = r1 := ⟨_, rfl⟩
 rw [h1] at hr
 have hr8 : r1.length = 8 := by rw [← h1]; exact runU_len _ hu8
 obtain ⟨r2, h2⟩ : ∃ r2, bytesU r1 = r2 := ⟨_, rfl⟩
 rw [h2] at hr
 have hr64 : r2.length = 64 := by rw [← h2, bytesU_len]
 have hr32 : r.length = 32 := by rw [← hr, List.length_take]; omega
 refine callsR Tryz.func78 rfl rfl (by kernel_rfl) rfl ?_
 have hw := Below.refl w.heap.size w
 refine zs ?_
 refine wl_allocB Tryz.underlying64 Tryz.zeroValue64 (by rfl) ?_
 rintro g2 w2 f2 b2 i2 i2_1
 have s2 := b2.size
 replace hw := hw.trans (b2.mono hw.size)
 refine wl_nil (zs ?_)
 refine wl_call rfl (C_StartShort _ hu) ?_
 rintro v4 w4 ⟨rfl, b4⟩
 have s4 := b4.size
 replace hw := hw.trans (b4.mono hw.size)
 replace f2 := f2.u b4
 refine zm rfl ?_
 refine wl_call rfl (C_whole _ (hK.u hw) h1 hu8 rfl (by omega) (by omega)) ?_
 rintro v6 w6 ⟨rfl, b6⟩
 have s6 := b6.size
 replace hw := hw.trans (b6.mono hw.size)
 replace f2 := f2.u b6
 refine wl_call rfl (C_sum _ h2 hr8) ?_
 rintro v7 w7 ⟨rfl, b7⟩
 have s7 := b7.size
 replace hw := hw.trans (b7.mono hw.size)
 replace f2 := f2.u b7
 refine wl_allocB Tryz.underlying139 Tryz.zeroValue139 (by rfl) ?_
 rintro g3 w3 f3 b3 i3 i3_1
 have s3 := b3.size
 replace hw := hw.trans (b3.mono hw.size)
 replace f2 := f2.u b3
 refine wl_stBa Tryz.sizeOf139 rfl f3 rfl hr64 (by rfl) ?_
 rintro w_1 f g e
 have s := g.size
 replace hw := hw.trans (below_of_grownBy g.g hw.size (by omega))
 replace f2 := f2.k g.g (ap_some (by omega))
 clear f3
 refine wl_nil (zs ?_)
 refine wl_slArrHi (32) Tryz.underlying139 Tryz.sizeOf5 rfl f rfl (by omega) (by omega) ?_
 rintro f8
 refine zp (o_arrptr Tryz.underlying64 rfl (by omega)) ?_
 refine wl_r (o_ldBpre Tryz.isAgg64 Tryz.sizeOf64 rfl f (by omega)) ?_
 refine wl_stBa Tryz.sizeOf64 rfl f2 rfl (by simp; omega) (by rfl) ?_
 rintro w_2 f_1 g_1 e_1
 have s_1 := g_1.size
 replace hw := hw.trans (below_of_grownBy g_1.g hw.size (by omega))
 replace f := f.k g_1.g (ap_some (by omega))
 clear f8
 clear f2
 refine wl_nil ?_
 rw [hr] at f_1
 refine ret_cell rfl rfl Tryz.isAgg64 Tryz.sizeOf64 f_1 (by rw [B8_length, hr32]) ?_
 exact ⟨rfl, hw⟩
end Go.Proofs.YtnnhenafhalobaaGreat
namespace Go.Proofs.YtnnhenafhalobaaGreat
set_option maxRecDepth 100000
open Go.RowKit
theorem own_max' {w : World} {lo hi c : Nat} {A : Option Addr} {l : List UInt8} (h : OwnH w lo hi A c l) : c ≤ 9223372036854775807 := by
 have := own_max h; simpa [maxLen] using this
theorem rd_blk {w : World} {g : Nat} {t : TypeId} {c : By} (hB : Blk w g t (B8 c)) : Rd w (some ⟨g, 0, none⟩) c := by
 have := rd_pre hB c.length
 rwa [List.take_length] at this
theorem Blk.to_Rd {w : World} {g : Nat} {t : TypeId} {c : By} (hB : Blk w g t (B8 c)) : Rd w (some ⟨g, 0, none⟩) c := rd_blk hB
section
variable {P : Program} {N : Nat} {fr : Fr} {w : World} {ty t t' : TypeId} {n g : Nat} {x z : Operand} {h : Int} {kh : IntKind}
theorem o_slArrHi (k : Nat) (hu : P.underlying t = some (.array n 5)) (hs : ∀ w, (sizeOf 5).run P w = .ok 1 w) (hx : fr.ev x = some (.pointer (some ⟨g, 0, none⟩))) (hz : fr.ev z = some (.int kh h)) (hh : h = (k : Int)) (hk : k ≤ n) : OpV P N fr w (.slice t x none (some z) none) ty (.slice (some ⟨g, 0, none⟩) k n) w := by
 subst hh
 intro a ha op hop _
 simp [execOp, hop, ha.ev hx, ha.ev hz, Instr.sliceAt, Instr.sureAddr, run_underlying hu, Instr.sliceBounds, Instr.sliceBound, asIntOf, hs, hk, Addr.add]
end
section
variable {fn : Func} {F : Ending → World → Prop} {N : Nat} {ks : List K} {ops : Array Oper} {tg : Tags} {l : List Oper} {fr : Fr} {w : World} {ty : TypeId} {pos : String} {aft : Array Edge} {gd : Option (Nat × Bool)} {d : Nat}
theorem wl_litKr2 {ps : Array (Nat × Operand)} {xs : List Operand} {A1 A2 : Option Addr} {n1 c1 n2 c2 : Nat} {p1 p2 : By} (hxs : ps.toList.map Prod.snd = xs) (hx : fr.evs xs = some [.slice A1 n1 c1, .slice A2 n2 c2]) (h1 : Rd w A1 p1) (h2 : Rd w A2 p2) (hn1 : n1 = p1.length) (hn2 : n2 = p2.length) (hc1 : p1.length ≤ c1) (hc2 : p2.length ≤ c2) (hm1 : c1 ≤ 9223372036854775807) (hm2 : c2 ≤ 9223372036854775807) (hps : ps = ((List.range' 0 2).zip xs).toArray)
  (hk : ∀ A w', RKy w' A [p1, p2] → Below w.heap.size w w' → WL Tryz.prog fn F N ks ops tg.tail l ((d, .slice A 2 2) :: fr) w')
  (ht : tg.loud = true := by rfl) (hg : onG ops fr gd = true := by rfl) (hd : Nat.blt d N = true := by rfl) : WL Tryz.prog fn F N ks ops tg (⟨some d, .buildSlice 72 2 ps, ty, pos, aft, gd⟩ :: l) fr w := by
 subst hn1; subst hn2
 refine wl_litRS (X := gBytes) (L := [p1, p2]) Tryz.rowKey Tryz.sizeOf35 Tryz.zeroValue35 hxs hps hx rfl rfl (fun i h => ?_) rfl hk ht hg hd
 rcases i with _ | _ | i
 ·exact ⟨_, rfl, rfl, A1, c1, rfl, h1, hc1, by simp only [maxLen]; omega⟩
 ·exact ⟨_, rfl, rfl, A2, c2, rfl, h2, hc2, by simp only [maxLen]; omega⟩
 ·simp at h; omega
end
section
variable {P : Program} {N : Nat} {fr : Fr} {w : World} {ty : TypeId} {x : Operand} {u0 u1 u2 u3 : Value}
theorem o_ext40 (hx : fr.ev x = some (.tuple #[u0, u1, u2, u3])) : OpV P N fr w (.extract x 0) ty u0 w := o_extract hx rfl
theorem o_ext41 (hx : fr.ev x = some (.tuple #[u0, u1, u2, u3])) : OpV P N fr w (.extract x 1) ty u1 w := o_extract hx rfl
theorem o_ext42 (hx : fr.ev x = some (.tuple #[u0, u1, u2, u3])) : OpV P N fr w (.extract x 2) ty u2 w := o_extract hx rfl
theorem o_ext43 (hx : fr.ev x = some (.tuple #[u0, u1, u2, u3])) : OpV P N fr w (.extract x 3) ty u3 w := o_extract hx rfl
end
end Go.Proofs.YtnnhenafhalobaaGreat
namespace Go.Proofs.YtnnhenafhalobaaGreat
set_option maxRecDepth 100000

def room (n : Nat) : Nat :=
 if n < 128 then 1 else if n < 16384 then 2 else if n < 2097152 then 3 else if n < 268435456 then 4 else if n < 34359738368 then 5
 else if n < 4398046511104 then 6 else if n < 562949953421312 then 7 else if n < 72057594037927936 then 8 else 9

theorem room_pos (n : Nat) : 1 ≤ room n ∧ room n ≤ 9 := by
 unfold room
 refine ⟨?_, ?_⟩ <;> (repeat' split) <;> omega

theorem or_one (n : Nat) : n ||| 1 = n / 2 * 2 + 1 := by
 rcases Nat.mod_two_eq_zero_or_one n with h | h
 ·rw [nat_join 1 n 1 (by simpa using h) (by omega)]; omega
 ·have e : n = (n - 1) ||| 1 := by rw [nat_join 1 (n - 1) 1 (by simp; omega) (by omega)]; omega
  have e2 : n ||| 1 = n := by
   have : n ||| 1 = (n - 1) ||| 1 ||| 1 := by rw [← e]
   rw [this, Nat.or_assoc, Nat.or_self, ← e]
  rw [e2]; omega

theorem bl_lo (k x : Nat) (h : 2 ^ k ≤ x) (hx : x < 2 ^ 64) : k + 1 ≤ Lib.bitLen x := by
 rw [Lib.bitLen_shift k x h hx]
 have h1 : 1 ≤ x / 2 ^ k := (Nat.one_le_div_iff (Nat.two_pow_pos k)).2 h
 have h2 : x / 2 ^ k < 2 ^ 64 := Nat.lt_of_le_of_lt (Nat.div_le_self _ _) hx
 rw [Lib.bitLen_half _ (by omega) h2]
 omega

theorem size_room (n : Nat) (h : n < 18446744073709551616) : min (((Lib.bitLen (n ||| 1) : Int) + 6) / 7) 9 = (room n : Int) := by
 have hy := or_one n
 generalize n ||| 1 = y at *
 have y1 : y ≤ n + 1 := by omega
 have y2 : n ≤ y := by omega
 have y3 : y < 2 ^ 64 := by simp; omega
 have hodd : y % 2 = 1 := by omega
 clear hy
 have lo := fun k hk => bl_lo k y hk y3
 have hi := fun k hk hx => Lib.bitLen_le y k hk hx
 unfold room
 split
 ·have := lo 0 (by simp; omega); have := hi 7 (by omega) (by simp; omega); omega
 split
 ·have := lo 7 (by simp; omega); have := hi 14 (by omega) (by simp; omega); omega
 split
 ·have := lo 14 (by simp; omega); have := hi 21 (by omega) (by simp; omega); omega
 split
 ·have := lo 21 (by simp; omega); have := hi 28 (by omega) (by simp; omega); omega
 split
 ·have := lo 28 (by simp; omega); have := hi 35 (by omega) (by simp; omega); omega
 split
 ·have := lo 35 (by simp; omega); have := hi 42 (by omega) (by simp; omega); omega
 split
 ·have := lo 42 (by simp; omega); have := hi 49 (by omega) (by simp; omega); omega
 split
 ·have := lo 49 (by simp; omega); have := hi 56 (by omega) (by simp; omega); omega
 ·have := lo 56 (by simp; omega); omega

def beB : Nat → Nat → List UInt8
 | 0, _ => []
 | j + 1, n => UInt8.ofNat (n / 256 ^ j) :: beB j n
theorem beB_length : ∀ j n, (beB j n).length = j
 | 0, _ => rfl
 | j + 1, n => by simp [beB, beB_length j n]

def first (k n : Nat) : UInt8 := UInt8.ofNat (256 - 2 ^ (9 - k) + n / 256 ^ (k - 1))
def enc (n : Nat) : List UInt8 := first (room n) n :: beB (room n - 1) n
theorem enc_length (n : Nat) : (enc n).length = room n := by
 have := room_pos n
 simp [enc, beB_length]; omega

def leB : Nat → Nat → List UInt8
 | 0, _ => []
 | k + 1, n => leB k n ++ [UInt8.ofNat (n / 256 ^ k)]
theorem leB_length : ∀ k n, (leB k n).length = k
 | 0, _ => rfl
 | k + 1, n => by simp [leB, leB_length k n]

def clampN (size : Int) : Nat := (max 1 (min size 8)).toNat
theorem clampN_bd (size : Int) : 1 ≤ clampN size ∧ clampN size ≤ 8 ∧ max 1 (min size 8) = (clampN size : Int) := by unfold clampN; omega

theorem byte_shift (n j : Nat) (hj : j ≤ 8) : IntKind.u8.wrap ((n : Int) / 2 ^ min (8 * (j : Int)).toNat IntKind.u64.bits) = ((UInt8.ofNat (n / 256 ^ j)).toNat : Int) := by
 have e : min (8 * (j : Int)).toNat IntKind.u64.bits = 8 * j := by
  show min (8 * (j : Int)).toNat 64 = 8 * j
  omega
 rw [e, UInt8.toNat_ofNat', IntKind.wrap_u8', show (256 : Nat) ^ j = 2 ^ (8 * j) from by rw [Nat.pow_mul]]
 rw [show ((2 : Int) ^ (8 * j)) = ((2 ^ (8 * j) : Nat) : Int) from by simp, ← Int.natCast_ediv]
 generalize n / 2 ^ (8 * j) = q
 omega

theorem room_lt (n : Nat) (h : n < 18446744073709551616) : n / 256 ^ (room n - 1) < 2 ^ (8 - room n) := by
 unfold room
 repeat' split
 all_goals (simp; omega)

theorem first_byte (n : Nat) (h : n < 18446744073709551616) :
  bits .or .u8 (IntKind.u8.wrap (255 * 2 ^ min (9 - (room n : Int)).toNat IntKind.u8.bits)) (IntKind.u8.wrap ((n : Int) / 2 ^ min (8 * ((room n : Int) - 1)).toNat IntKind.u64.bits)) = ((first (room n) n).toNat : Int) := by
 have hk := room_pos n
 have hlt := room_lt n h
 have e1 : (8 * ((room n : Int) - 1)) = 8 * ((room n - 1 : Nat) : Int) := by omega
 rw [e1, byte_shift n (room n - 1) (by omega)]
 unfold first
 generalize hq : n / 256 ^ (room n - 1) = q at *
 have hq256 : q < 256 := Nat.lt_of_lt_of_le hlt (Nat.pow_le_pow_right (by omega) (show 8 - room n ≤ 8 by omega))
 have e2 : (IntKind.u8.wrap (255 * 2 ^ min (9 - (room n : Int)).toNat IntKind.u8.bits)) = ((256 - 2 ^ (9 - room n) : Nat) : Int) := by
  have h3 : ∀ k : Fin 10, 1 ≤ k.val → (IntKind.u8.wrap (255 * 2 ^ min (9 - (k.val : Int)).toNat IntKind.u8.bits)) = ((256 - 2 ^ (9 - k.val) : Nat) : Int) := by decide +kernel
  exact h3 ⟨room n, by omega⟩ hk.1
 rw [e2, UInt8.toNat_ofNat', UInt8.toNat_ofNat', Nat.mod_eq_of_lt hq256]
 have h5 : 2 ^ (8 - room n) ≤ 2 ^ (9 - room n) := Nat.pow_le_pow_right (by omega) (by omega)
 have h6 : 2 ^ (9 - room n) ≤ 256 := Nat.pow_le_pow_right (show 0 < 2 by omega) (show 9 - room n ≤ 8 by omega)
 have h7 : 0 < 2 ^ (9 - room n) := Nat.two_pow_pos _
 rw [u8_or_nat _ _ (by omega) hq256, nat_join (9 - room n) _ _ ?_ (by omega)]
 ·omega
 ·have h8 : 256 = 2 ^ (9 - room n) * 2 ^ (room n - 1) := by rw [← Nat.pow_add, show 9 - room n + (room n - 1) = 8 from by omega]
  have h9 : 256 - 2 ^ (9 - room n) = 2 ^ (9 - room n) * (2 ^ (room n - 1) - 1) := by rw [Nat.mul_sub, ← h8, Nat.mul_one]
  rw [h9]; exact Nat.mul_mod_right _ _

/-! What a reader does, on what is left and its error (ErrBad 4, ErrMore 5). -/
def lead (c : UInt8) : Nat := if c.toNat < 128 then 1 else if c.toNat < 192 then 2 else if c.toNat < 224 then 3 else if c.toNat < 240 then 4 else if c.toNat < 248 then 5 else if c.toNat < 252 then 6
 else if c.toNat < 254 then 7 else if c.toNat < 255 then 8 else 9
theorem lead_bd (c : UInt8) : 1 ≤ lead c ∧ lead c ≤ 9 := by
 unfold lead
 refine ⟨?_, ?_⟩ <;> (repeat' split) <;> omega
def beVal (n : Nat) (l : List UInt8) : Nat := l.foldl (fun a c => a * 256 + c.toNat) n
def leVal : List UInt8 → Nat
 | [] => 0
 | c :: r => c.toNat + 256 * leVal r
abbrev RS := List UInt8 × Nat
def rTake (n : Nat) (s : RS) : List UInt8 × RS := if s.2 ≠ 0 then ([], s) else if s.1.length < n then ([], (s.1, 5)) else (s.1.take n, (s.1.drop n, 0))
def rNumber (s : RS) : Nat × RS := if s.2 ≠ 0 then (0, s) else match s.1 with
 | [] => (0, ([], 5))
 | c :: t => if t.length + 1 < lead c then (0, (s.1, 5))
  else if room (beVal (c.toNat % 2 ^ (8 - lead c)) (t.take (lead c - 1))) = lead c then (beVal (c.toNat % 2 ^ (8 - lead c)) (t.take (lead c - 1)), (t.drop (lead c - 1), 0))
  else (0, (s.1, 4))
def rWord (size : Int) (s : RS) : Nat × RS := (leVal (rTake (clampN size) s).1, (rTake (clampN size) s).2)
theorem rNumber_err {s : List UInt8} {e : Nat} (h : e ≠ 0) : rNumber (s, e) = (0, (s, e)) := by simp [rNumber, h]
theorem rNumber_nil : rNumber ([], 0) = (0, ([], 5)) := by simp [rNumber]
theorem rNumber_more {c : UInt8} {t : List UInt8} (h : t.length + 1 < lead c) : rNumber (c :: t, 0) = (0, (c :: t, 5)) := by simp [rNumber, h]
theorem rNumber_bad {c : UInt8} {t : List UInt8} (h : ¬ t.length + 1 < lead c) (h2 : room (beVal (c.toNat % 2 ^ (8 - lead c)) (t.take (lead c - 1))) ≠ lead c) : rNumber (c :: t, 0) = (0, (c :: t, 4)) := by simp [rNumber, h, h2]
theorem rNumber_ok {c : UInt8} {t : List UInt8} (h : ¬ t.length + 1 < lead c) (h2 : room (beVal (c.toNat % 2 ^ (8 - lead c)) (t.take (lead c - 1))) = lead c) :
  rNumber (c :: t, 0) = (beVal (c.toNat % 2 ^ (8 - lead c)) (t.take (lead c - 1)), (t.drop (lead c - 1), 0)) := by simp [rNumber, h, h2]

theorem beVal_snoc (n : Nat) (l : List UInt8) (c : UInt8) : beVal n (l ++ [c]) = beVal n l * 256 + c.toNat := by simp [beVal]
theorem beVal_lt : ∀ (l : List UInt8) (n k : Nat), n < 2 ^ k → beVal n l < 2 ^ (k + 8 * l.length)
 | [], n, k, h => by simpa [beVal] using h
 | c :: l, n, k, h => by
  have h1 : n * 256 + c.toNat < 2 ^ (k + 8) := by
   have := c.toNat_lt
   rw [Nat.pow_add]
   omega
  have := beVal_lt l (n * 256 + c.toNat) (k + 8) h1
  have e : beVal n (c :: l) = beVal (n * 256 + c.toNat) l := rfl
  rw [e, List.length_cons, show k + 8 * (l.length + 1) = k + 8 + 8 * l.length from by omega]
  exact this
theorem beVal_u64 (c : UInt8) (l : List UInt8) (h : l.length ≤ lead c - 1) : beVal (c.toNat % 2 ^ (8 - lead c)) l < 18446744073709551616 := by
 have hk := lead_bd c
 have h1 := beVal_lt l (c.toNat % 2 ^ (8 - lead c)) (8 - lead c) (Nat.mod_lt _ (Nat.two_pow_pos _))
 exact Nat.lt_of_lt_of_le h1 (Nat.pow_le_pow_right (by omega) (show 8 - lead c + 8 * l.length ≤ 64 by omega))
theorem mask_byte (c : UInt8) : bits .and .u8 (c.toNat : Int) (255 / 2 ^ min ((lead c : Int)).toNat IntKind.u8.bits) = ((c.toNat % 2 ^ (8 - lead c) : Nat) : Int) := by
 have : ∀ c : Fin 256, bits .and .u8 (c.val : Int) (255 / 2 ^ min ((lead (UInt8.ofNat c.val) : Int)).toNat IntKind.u8.bits) = ((c.val % 2 ^ (8 - lead (UInt8.ofNat c.val)) : Nat) : Int) := by decide +kernel
 simpa using this ⟨c.toNat, c.toNat_lt⟩
theorem join_byte (n : Nat) (c : UInt8) (h : n * 256 < 18446744073709551616) : bits .or .u64 (IntKind.u64.wrap ((n : Int) * 2 ^ min ((8 : Int)).toNat IntKind.u64.bits)) (c.toNat : Int) = ((n * 256 + c.toNat : Nat) : Int) := by
 have hc := c.toNat_lt
 have e : IntKind.u64.wrap ((n : Int) * 2 ^ min ((8 : Int)).toNat IntKind.u64.bits) = ((n * 256 : Nat) : Int) := by
  show ((n : Int) * 256) % 18446744073709551616 = _
  omega
 rw [e, u64_or_nat _ _ h (by omega), nat_join 8 _ _ (by simp) (by simpa using hc)]

theorem leVal_snoc : ∀ (l : List UInt8) (c : UInt8), leVal (l ++ [c]) = leVal l + c.toNat * 256 ^ l.length
 | [], c => by simp [leVal]
 | d :: l, c => by
  simp only [List.cons_append, leVal, leVal_snoc l c, List.length_cons, Nat.pow_succ]
  generalize 256 ^ l.length = q
  rw [Nat.mul_add, Nat.mul_left_comm, Nat.mul_comm 256 q]
  omega
theorem leVal_lt : ∀ l : List UInt8, leVal l < 256 ^ l.length
 | [] => by simp [leVal]
 | c :: l => by
  have h1 := leVal_lt l
  have h2 := c.toNat_lt
  simp only [leVal, List.length_cons, Nat.pow_succ]
  omega
theorem or_byte (l : List UInt8) (c : UInt8) (h : l.length < 8) :
  bits .or .u64 (leVal l : Int) (IntKind.u64.wrap ((c.toNat : Int) * 2 ^ min (8 * (l.length : Int)).toNat IntKind.u64.bits)) = (leVal (l ++ [c]) : Int) := by
 have hc := c.toNat_lt
 have h1 := leVal_lt l
 have e1 : min (8 * (l.length : Int)).toNat IntKind.u64.bits = 8 * l.length := by
  show min (8 * (l.length : Int)).toNat 64 = 8 * l.length
  omega
 have hp : (256 : Nat) ^ l.length = 2 ^ (8 * l.length) := by rw [Nat.pow_mul]
 have hle : 2 ^ (8 * l.length) ≤ 2 ^ 56 := Nat.pow_le_pow_right (by omega) (by omega)
 have hq : c.toNat * 2 ^ (8 * l.length) < 18446744073709551616 := by
  have : c.toNat * 2 ^ (8 * l.length) ≤ 255 * 2 ^ 56 := Nat.mul_le_mul (by omega) hle
  omega
 rw [hp] at h1
 have e2 : IntKind.u64.wrap ((c.toNat : Int) * 2 ^ (8 * l.length)) = ((c.toNat * 2 ^ (8 * l.length) : Nat) : Int) := by
  have e3 : ((c.toNat : Int) * 2 ^ (8 * l.length)) = ((c.toNat * 2 ^ (8 * l.length) : Nat) : Int) := by simp
  rw [e3]
  show ((c.toNat * 2 ^ (8 * l.length) : Nat) : Int) % 18446744073709551616 = _
  omega
 rw [e1, e2, u64_or_nat _ _ (by omega) hq, Nat.or_comm, nat_join (8 * l.length) _ _ (Nat.mul_mod_left _ _) h1, leVal_snoc, hp, Nat.add_comm]
theorem leVal_u64 (l : List UInt8) (h : l.length ≤ 8) : leVal l < 18446744073709551616 :=
 Nat.lt_of_lt_of_le (leVal_lt l) (Nat.le_trans (Nat.pow_le_pow_right (by omega) h) (by decide))
end Go.Proofs.YtnnhenafhalobaaGreat
namespace Go.Proofs.YtnnhenafhalobaaGreat
set_option maxRecDepth 100000
open Go.RowKit

theorem C_clamp (n : Int) (w : World) : CallsR Tryz.prog 99 [.int .i64 n] w fun v w' => v = .int .i64 (max 1 (min n 8)) ∧ w = w' := by
 refine callsR Tryz.func99 rfl rfl (by kernel_rfl) rfl ?_
 refine zs (za rfl (wl_nil (zs (zm rfl ?_))))
 refine zp (o_min rfl rfl) ?_
 refine zp (o_max rfl rfl) ?_
 refine za rfl (wl_nil ?_)
 refine ret1 rfl rfl ?_
 exact ⟨rfl, rfl⟩


theorem C_grown {A : Option Addr} {l : List UInt8} {k : Nat} (c : Nat) (hk : k = l.length) (n : Int) (w : World) (hr : Rd w A l) (hn : 0 ≤ n) (hl : l.length + n.toNat ≤ 140737488355328) :
  CallsR Tryz.prog 100 [.slice A k c, .int .i64 n] w fun v w' => ∃ A' c', v = .slice A' l.length c' ∧ Own w' w.heap.size A' c' l ∧ Below w.heap.size w w' := by
 subst hk
 refine callsR Tryz.func100 rfl rfl (by kernel_rfl) rfl ?_
 refine zs (za rfl (wl_nil (zs (zm rfl ?_))))
 refine zp (o_len (t := 35) Tryz.underlying35 rfl) ?_
 refine zm rfl ?_
 refine zp (o_add rfl rfl (by omega) (by omega)) ?_
 refine wl_make0 (n := l.length + n.toNat) Tryz.u8 rfl rfl (by omega) (by omega) ?_
 intro w9 hown9 hb9 hs9
 refine zm rfl ?_
 refine wl_app (s := []) Tryz.u8 rfl rfl hown9 rfl rfl (hr.below hb9) (by simp; omega) (by omega) ?_
 intro A11 c11 w11 hown11 hg11 hk11 hb11
 refine za rfl (wl_nil ?_)
 refine ret1 rfl rfl ?_
 exact ⟨A11, c11, by simp, hown11, hb9.trans hb11⟩

abbrev u64 : Nat := 18446744073709551616

theorem C_len64 (x : Int) (w : World) (h0 : 0 ≤ x) (h1 : x ≤ 18446744073709551615) : CallsR Tryz.prog 127 [.int .u64 x] w fun v w' => v = .int .i64 (Lib.bitLen x.toNat) ∧ w = w' :=
 ⟨⟨_, Tryz.func127, rfl, by kernel_rfl⟩, (Tryz.bits_Len64 x w h0 h1).mono fun _ _ h => ⟨_, h.1, rfl, h.2.symm⟩⟩

theorem C_size (n : Nat) (w : World) (hn : n < u64) : CallsR Tryz.prog 109 [.int .u64 n] w fun v w' => v = .int .i64 (room n) ∧ w = w' := by
 have ho : n ||| 1 < u64 := by have := or_one n; unfold u64 at *; omega
 refine callsR Tryz.func109 rfl rfl (by kernel_rfl) rfl ?_
 refine zs (za rfl (wl_nil (zs (zm rfl ?_))))
 refine zp (o_asi (o_or rfl rfl) (u64_or_nat n 1 hn (by omega))) ?_
 refine wl_call rfl (C_len64 _ _ (by omega) (by unfold u64 at ho; omega)) ?_
 rintro _ w5 ⟨rfl, rfl⟩
 have hb := Lib.bitLen_le (n ||| 1) 64 (by omega) ho
 rw [show ((n ||| 1 : Nat) : Int).toNat = n ||| 1 from by omega]
 refine zp (o_add rfl rfl (by omega) (by omega)) ?_
 refine zp (o_quo rfl rfl (by omega) (by omega) (by omega)) ?_
 refine zp (o_min rfl rfl) ?_
 refine za rfl (wl_nil ?_)
 refine ret1 rfl rfl ?_
 exact ⟨by rw [← size_room n hn], rfl⟩

theorem Tryz.lit8 (c : Int) (w : World) : (Instr.buildSlice 35 1 ([0].zip [Value.int .u8 c]).toArray).run Tryz.prog w = .ok (.slice (some ⟨w.heap.size, 0, none⟩) 1 1) (w.alloc (.cells #[.int .u8 c] 5)) := by kernel_rfl

theorem C_number {B : Nat} {A : Option Addr} {l : List UInt8} (c : Nat) (n : Nat) (w : World) (hB : B ≤ w.heap.size) (hown : Own w B A c l) (hn : n < u64) (hl : l.length ≤ 140737488355200) :
  CallsR Tryz.prog 108 [.slice A l.length c, .int .u64 n] w fun v w' => ∃ A' c', v = .slice A' (l ++ enc n).length c' ∧ Own w' B A' c' (l ++ enc n) ∧ Below B w w' := by
 have hk := room_pos n
 refine callsR Tryz.func108 rfl rfl (by kernel_rfl) rfl ?_
 refine zs (za rfl (wl_nil (zs (zm rfl ?_))))
 refine wl_call rfl (C_size n w hn) ?_
 rintro _ w8 ⟨rfl, rfl⟩
 refine za rfl (wl_nil (rk_seq ?_))
 refine rk_draw (id := 2) (none) [0, 0, 2, 4, 0, 0, 32, 64, 144, 256, 520, 1024, 2049, 8191] [0, 0, 2, 6, 0, 0, 32, 96, 240, 496, 1022, 2046, 4095, 8191] 6144 0 [(.p, 0), (.p, 1), (.p, 2), (.p, 3), (.p, 4), (.p, 5), (.p, 6), (.p, 7), (.p, 8), (.p, 9), (.p, 10), (.l, 11), (.l, 12), (.p, 13)] (by kernel_rfl) (by kernel_rfl) (by kernel_rfl) (by kernel_rfl) (by kernel_rfl) ?_
 refine zm rfl (zm rfl ?_)
 refine zp (o_sub rfl rfl (by omega) (by omega)) ?_
 refine zp (o_shl rfl rfl (by omega)) ?_
 refine zm rfl (zm rfl ?_)
 refine zp (o_sub rfl rfl (by omega) (by omega)) ?_
 refine zp (o_mul rfl rfl (by omega) (by omega)) ?_
 refine zp (o_shr rfl rfl (by omega)) ?_
 refine zp (o_convi (src := 52) (dst := 5) Tryz.underlying52 Tryz.underlying5 rfl) ?_
 refine zp (o_asi (o_or rfl rfl) (first_byte n hn)) ?_
 refine wl_v (o_lit (is := [0]) (xs := [.tmp 19]) rfl (Tryz.lit8 _ _)) ?_
 refine wl_app (m := [first (room n) n]) Tryz.u8 rfl rfl ((hown.drew).alloc _) rfl rfl (rd_lit _ _ _ rfl) (by simp; omega) (by simp; omega) ?_
 intro A21 c21 w21 hown21 hg21 hk21 hb21
 refine za rfl ?_
 refine wl_nild ?_
 refine rk_seq (zs (zm rfl ?_))
 refine zp (o_sub rfl rfl (by omega) (by omega)) ?_
 refine za rfl (wl_nil (rk_block ?_))
 have hb0 : Below B w w21 := ((Below.refl B w).drew.alloc hB _).trans hb21
 refine rk_loop (fun j fr w' => ∃ A' c' l' i, fr = [(0, .slice A' l'.length c'), (1, .int .u64 n), (6, .int .i64 i)] ∧ i = (j : Int) - 1 ∧ j ≤ 8 ∧ l' ++ beB j n = l ++ enc n ∧ Own w' B A' c' l' ∧ Below B w w')
  (n := room n - 1) (by repeat' constructor) ⟨A21, c21, _, _, rfl, by omega, by omega, by simp [enc], hown21, hb0⟩ ?_
 rintro j fr w2 ⟨A', c', l', i, rfl, hi, hj, hl', hown', hb'⟩
 have hlen : l'.length + j = l.length + room n := by have := congrArg List.length hl'; simpa [beB_length, enc_length] using this
 refine rk_seq (zs (zm rfl ?_))
 refine zp (o_ge rfl rfl) ?_
 refine wl_nil ?_
 refine rk_if rfl (fun h => ?_) (fun h => ?_)
 ·obtain ⟨q, rfl⟩ := Int.eq_ofNat_of_zero_le h
  obtain rfl : j = q + 1 := by omega
  refine rk_skip (rk_seq (rk_block (rk_region (zm rfl (zm rfl (zm rfl ?_))))))
  refine zp (o_mul rfl rfl (by omega) (by omega)) ?_
  refine zp (o_shr rfl rfl (by omega)) ?_
  refine zp (o_asi (o_convi Tryz.underlying52 Tryz.underlying5 rfl) (byte_shift n q (by omega))) ?_
  refine wl_v (o_lit (is := [0]) (xs := [.tmp 33]) rfl (Tryz.lit8 _ _)) ?_
  have hs2 := hb'.size
  refine wl_app (m := [UInt8.ofNat (n / 256 ^ q)]) Tryz.u8 rfl rfl (hown'.alloc _) rfl rfl (rd_lit _ _ _ rfl) (by simp; omega) (by simp; omega) ?_
  intro A35 c35 w35 hown35 hg35 hk35 hb35
  refine za rfl (wl_nil ?_)
  refine rk_blk ?_
  refine rk_region (zm rfl ?_)
  refine zp (o_sub rfl rfl (by omega) (by omega)) ?_
  refine za rfl (wl_nil ?_)
  refine rk_again (m := q) (by repeat' constructor) ⟨A35, c35, _, _, rfl, rfl, by omega, by simpa [beB] using hl', hown35, (hb'.alloc (by omega) _).trans hb35⟩ (by omega)
 ·obtain rfl : j = 0 := by omega
  refine rk_exit rfl ?_
  refine zs (zm rfl (za rfl (wl_nil ?_)))
  refine ret1 rfl rfl ?_
  simp only [beB, List.append_nil] at hl'
  subst hl'
  exact ⟨A', c', rfl, hown', hb'⟩

theorem C_Number {A : Option Addr} {l : List UInt8} (c : Nat) (n : Nat) (w : World) (hr : Rd w A l) (hn : n < u64) (hl : l.length ≤ 140737488355000) :
  CallsR Tryz.prog 85 [.slice A l.length c, .int .u64 n] w fun v w' => ∃ A' c', v = .slice A' (l ++ enc n).length c' ∧ Own w' w.heap.size A' c' (l ++ enc n) ∧ Below w.heap.size w w' := by
 have hk := room_pos n
 refine callsR Tryz.func85 rfl rfl (by kernel_rfl) rfl ?_
 refine zs (za rfl (wl_nil (zs (zm rfl (zm rfl ?_)))))
 refine wl_call rfl (C_size n w hn) ?_
 rintro _ w1 ⟨rfl, rfl⟩
 refine wl_call rfl (C_grown c rfl _ w hr (by omega) (by omega)) ?_
 rintro _ w2 ⟨A2, c2, rfl, hown2, hb2⟩
 refine zm rfl ?_
 refine wl_call rfl (C_number c2 n w2 hb2.size hown2 hn (by omega)) ?_
 rintro _ w3 ⟨A3, c3, rfl, hown3, hb3⟩
 refine za rfl (wl_nil ?_)
 refine ret1 rfl rfl ?_
 exact ⟨A3, c3, rfl, hown3, hb2.trans hb3⟩

theorem C_Block {A X : Option Addr} {l p : List UInt8} (c k : Nat) (w : World) (hr : Rd w A l) (hp : Rd w X p) (hl : l.length + p.length ≤ 140737488355000) :
  CallsR Tryz.prog 105 [.slice A l.length c, .slice X p.length k] w fun v w' => ∃ A' c', v = .slice A' (l ++ enc p.length ++ p).length c' ∧ Own w' w.heap.size A' c' (l ++ enc p.length ++ p) ∧ Below w.heap.size w w' := by
 have hk := room_pos p.length
 have hn : p.length < u64 := by unfold u64; omega
 refine callsR Tryz.func105 rfl rfl (by kernel_rfl) rfl ?_
 refine zs (za rfl (wl_nil (zs (zm rfl ?_))))
 refine zp (o_len (t := 35) Tryz.underlying35 rfl) ?_
 refine zp (o_convu64 (src := 3) (dst := 52) Tryz.underlying3 Tryz.underlying52 rfl (by omega) (by omega)) ?_
 refine za rfl (wl_nil (zs (zm rfl (zm rfl ?_))))
 refine wl_call rfl (C_size p.length w hn) ?_
 rintro _ w1 ⟨rfl, rfl⟩
 refine zm rfl ?_
 refine zp (o_len (t := 35) Tryz.underlying35 rfl) ?_
 refine zp (o_add rfl rfl (by omega) (by omega)) ?_
 refine wl_call rfl (C_grown c rfl _ w hr (by omega) (by omega)) ?_
 rintro _ w2 ⟨A2, c2, rfl, hown2, hb2⟩
 refine zm rfl ?_
 refine wl_call rfl (C_number c2 p.length w2 hb2.size hown2 hn (by omega)) ?_
 rintro _ w3 ⟨A3, c3, rfl, hown3, hb3⟩
 have hb := hb2.trans hb3
 refine zm rfl ?_
 refine wl_app Tryz.u8 rfl rfl hown3 rfl rfl (hp.below hb) (by simp [enc_length]; omega) hb.size ?_
 intro A4 c4 w4 hown4 hg4 hk4 hb4
 refine za rfl (wl_nil ?_)
 refine ret1 rfl rfl ?_
 exact ⟨A4, c4, rfl, hown4, hb.trans hb4⟩

theorem C_Word {A : Option Addr} {l : List UInt8} (c : Nat) (n : Nat) (size : Int) (w : World) (hr : Rd w A l) (hn : n < u64) (hl : l.length ≤ 140737488355000) :
  CallsR Tryz.prog 77 [.slice A l.length c, .int .u64 n, .int .i64 size] w fun v w' => ∃ A' c', v = .slice A' (l ++ leB (clampN size) n).length c' ∧ Own w' w.heap.size A' c' (l ++ leB (clampN size) n) ∧ Below w.heap.size w w' := by
 obtain ⟨hk1, hk2, hk3⟩ := clampN_bd size
 refine callsR Tryz.func77 rfl rfl (by kernel_rfl) rfl ?_
 refine zs (za rfl (wl_nil (zs (zm rfl ?_))))
 refine wl_call rfl (C_clamp size w) ?_
 rintro _ w1 ⟨rfl, rfl⟩
 rw [hk3]
 refine za rfl (wl_nil (zs (zm rfl (zm rfl ?_))))
 refine wl_call rfl (C_grown c rfl _ w hr (by omega) (by omega)) ?_
 rintro _ w2 ⟨A2, c2, rfl, hown2, hb2⟩
 refine za rfl (wl_nil (rk_seq (zs (zm rfl (zm rfl (wl_nil (rk_block ?_)))))))
 refine rk_loop (fun m fr w' => ∃ j len A' c', fr = [(0, .slice A' len c'), (1, .int .u64 n), (13, .int .i64 (clampN size)), (14, .int .i64 (j : Nat))] ∧ len = (l ++ leB j n).length ∧ m + j = clampN size ∧ Own w' w.heap.size A' c' (l ++ leB j n) ∧ Below w.heap.size w w')
  (n := clampN size) (by repeat' constructor) ⟨0, _, A2, c2, rfl, by simp [leB], by omega, by simpa [leB] using hown2, hb2⟩ ?_
 rintro m fr w3 ⟨j, len, A', c', rfl, hln, hm, hown', hb'⟩
 have hlen : (l ++ leB j n).length = l.length + j := by simp [leB_length]
 refine zs ?_
 refine zp (o_lt rfl rfl) ?_
 refine wl_nil (rk_seq ?_)
 refine rk_if rfl (fun h => ?_) (fun h => ?_)
 ·refine rk_skip ?_
  refine rk_seq (rk_block (zs (zm rfl (za rfl (wl_nil (rk_region (zm rfl (zm rfl (zm rfl ?_)))))))))
  refine zp (o_mul rfl rfl (by omega) (by omega)) ?_
  refine zp (o_shr rfl rfl (by omega)) ?_
  refine zp (o_asi (o_convi Tryz.underlying52 Tryz.underlying5 rfl) (byte_shift n j (by omega))) ?_
  refine wl_v (o_lit (is := [0]) (xs := [.tmp 22]) rfl (Tryz.lit8 _ _)) ?_
  have hs2 := hb'.size
  refine wl_app (m := [UInt8.ofNat (n / 256 ^ j)]) Tryz.u8 rfl hln (hown'.alloc _) rfl rfl (rd_lit _ _ _ rfl) (by rw [hlen]; simp; omega) (by simp; omega) ?_
  intro A5 c5 w5 hown5 hg5 hk5 hb5
  refine za rfl (wl_nil ?_)
  refine rk_blk ?_
  refine rk_region ?_
  refine zp (o_add rfl rfl (by omega) (by omega)) ?_
  refine zm rfl (wl_nil ?_)
  exact rk_again (m := m - 1) (by repeat' constructor) ⟨j + 1, _, A5, c5, rfl, by simp [leB], by omega, by simpa [leB] using hown5, (hb'.alloc (by omega) _).trans hb5⟩ (by omega)
 ·obtain rfl : j = clampN size := by omega
  refine rk_exit rfl ?_
  refine zs (zm rfl (za rfl (wl_nil ?_)))
  refine ret1 rfl rfl ?_
  exact ⟨A', c', by rw [hln], hown', hb'⟩
end Go.Proofs.YtnnhenafhalobaaGreat
namespace Go.Proofs.YtnnhenafhalobaaGreat
set_option maxRecDepth 100000
open Go.RowKit

def RdrI (w : World) (g : Nat) (l : List UInt8) (p e : Nat) : Prop :=
 ∃ A c, Blk w g 148 [.pointer (some ⟨g, 0, none⟩), .slice A l.length c, .int .i64 p, .int .i64 e] ∧ Own w 0 A c l ∧ l.length ≤ c ∧ p ≤ l.length ∧ l.length ≤ 140737488355328 ∧ e ≤ 100

theorem blk_cutA (A : Option Addr) (c sz k : Nat) : blk (cutA A c sz k) = blk A := by
 unfold cutA blk
 split
 ·rfl
 ·cases A <;> simp [block_of_add]
theorem Rd.cut {w : World} {A : Option Addr} {l : List UInt8} (h : Rd w A l) {c k : Nat} (hk : k ≤ l.length) (hc : l.length ≤ c) : Rd w (cutA A c 1 k) (l.drop k) := by
 unfold cutA
 rw [Nat.mul_one]
 exact Rd.drop h hk hc

theorem C_made {g : Nat} {vs : List Value} (w : World) (hB : Blk w g 148 (.pointer (some ⟨g, 0, none⟩) :: vs)) :
  CallsR Tryz.prog 128 [.pointer (some ⟨g, 0, none⟩)] w fun v w' => v = .bool true ∧ w = w' := by
 refine callsR Tryz.func128 rfl rfl (by kernel_rfl) rfl ?_
 refine zs (za rfl (wl_nil (zs (zm rfl ?_))))
 refine zp (o_pne_nil (t := 126) Tryz.underlying126 rfl rfl) ?_
 refine zm rfl (zm rfl ?_)
 refine zp (o_nil rfl) ?_
 refine zp (o_faddr (s := 148) (i := 0) (off := 0) Tryz.underlying148 rfl Tryz.sizeOf126 rfl rfl rfl) ?_
 refine wl_r (o_loadb (t := 126) Tryz.isAgg126 rfl hB (by rfl)) ?_
 refine zm rfl ?_
 refine zp (o_peq_same (t := 126) Tryz.underlying126 Tryz.sizeOf148 rfl rfl) ?_
 refine zp (o_pick_t rfl rfl) ?_
 refine za rfl (wl_nil ?_)
 refine ret1 rfl rfl ?_
 exact ⟨rfl, rfl⟩
theorem C_take {g : Nat} {l : List UInt8} {p e : Nat} {m : Int} (n : Nat) (hm : m = n) (w : World) (hR : RdrI w g l p e) :
  CallsR Tryz.prog 110 [.pointer (some ⟨g, 0, none⟩), .int .u64 m] w fun v w' => w.grownBy w' (some g) ∧ w'.heap.size = w.heap.size ∧
   ((e = 0 ∧ n ≤ l.length - p ∧ RdrI w' g l (p + n) 0 ∧ ∃ A' c', v = .tuple #[.slice A' n c', .bool true] ∧ n ≤ c' ∧ Rd w' A' ((l.drop p).take n) ∧ blk A' ≠ some g) ∨
    (v = .tuple #[.slice none 0 0, .bool false] ∧ (e = 0 → l.length - p < n) ∧ RdrI w' g l p (if e = 0 then 5 else e))) := by
 subst hm
 have hR0 := hR
 obtain ⟨A, c, hB, ho, hc, hp, hl, he⟩ := hR
 have hr := ho.rd
 have hA := ho.ne hB (by decide)
 refine callsR Tryz.func110 rfl rfl (by kernel_rfl) rfl ?_
 refine zs (za rfl (za rfl (wl_nil (rk_seq (zs (zm rfl ?_))))))
 refine wl_call rfl (C_made w hB) ?_
 rintro _ w8 ⟨rfl, rfl⟩
 refine zp (o_not rfl) ?_
 refine zm rfl (zm rfl ?_)
 refine zp (o_nil rfl) ?_
 refine zp (o_faddr (s := 148) (i := 3) (off := 3) Tryz.underlying148 rfl Tryz.sizeOf27 rfl rfl rfl) ?_
 refine wl_r (o_loadb (t := 27) Tryz.isAgg27 rfl hB (by rfl)) ?_
 refine zp (o_ne rfl rfl) ?_
 refine zp (o_pick_f rfl rfl) ?_
 refine wl_nil ?_
 refine rk_if rfl (fun h => ?_) (fun h => ?_)
 ·refine zs ?_
  refine za rfl (za rfl (wl_nil ?_))
  refine ret2 rfl rfl rfl ?_
  have he0 : e ≠ 0 := by intro h0; subst h0; exact h rfl
  exact ⟨World.grownBy.refl _ _, rfl, .inr ⟨rfl, fun h0 => absurd h0 he0, by rw [if_neg he0]; exact hR0⟩⟩
 ·have he0 : e = 0 := by omega
  subst he0
  refine rk_skip (rk_seq (rk_seq ?_))
  refine rk_draw (id := 3) (none) [0, 0, 2, 4, 8, 16, 0, 64, 128, 256, 544, 1024, 2049] [0, 0, 2, 6, 14, 30, 0, 64, 192, 448, 1022, 2046, 4095] 0 0 [(.p, 0), (.p, 1), (.p, 2), (.p, 3), (.r, 4), (.p, 5), (.p, 6), (.p, 7), (.p, 8), (.r, 9), (.p, 10), (.p, 11), (.p, 12)] (by kernel_rfl) (by kernel_rfl) (by kernel_rfl) (by kernel_rfl) (by kernel_rfl) ?_
  refine zm rfl (zm rfl ?_)
  refine zp (o_nil rfl) ?_
  refine zp (o_faddr (s := 148) (i := 1) (off := 1) Tryz.underlying148 rfl Tryz.sizeOf35 rfl rfl rfl) ?_
  refine wl_r (o_loadb (t := 35) Tryz.isAgg35 rfl hB (by rfl)) ?_
  refine zp (o_len (t := 35) Tryz.underlying35 rfl) ?_
  refine zm rfl ?_
  refine zp (o_nil rfl) ?_
  refine zp (o_faddr (s := 148) (i := 2) (off := 2) Tryz.underlying148 rfl Tryz.sizeOf3 rfl rfl rfl) ?_
  refine wl_r (o_loadb (t := 3) Tryz.isAgg3 rfl hB (by rfl)) ?_
  refine zp (o_sub rfl rfl (by omega) (by omega)) ?_
  refine zp (o_convu64 (src := 3) (dst := 52) Tryz.underlying3 Tryz.underlying52 rfl (by omega) (by omega)) ?_
  refine zp (o_gt rfl rfl) ?_
  refine wl_nild ?_
  refine rk_if rfl (fun h => ?_) (fun h => ?_)
  ·refine zs ?_
   refine zm rfl ?_
   refine zp (o_nil rfl) ?_
   refine zp (o_faddr (s := 148) (i := 3) (off := 3) Tryz.underlying148 rfl Tryz.sizeOf27 rfl rfl rfl) ?_
   refine wl_store1 Tryz.sizeOf27 rfl rfl rfl hB (by simp) ?_
   intro w1 hB1 hg1 hz1
   refine wl_nil (zs (za rfl (za rfl (wl_nil ?_))))
   refine ret2 rfl rfl rfl ?_
   have hg := grownBy_trans (grownBy_drew w (some g)) hg1
   exact ⟨hg, hz1, .inr ⟨rfl, fun _ => by omega, A, c, hB1, ho.kept hg (.inr hA), hc, hp, hl, by simp⟩⟩
  ·refine rk_skip ?_
   refine zs (zm rfl ?_)
   refine zp (o_nil rfl) ?_
   refine zp (o_faddr (s := 148) (i := 2) (off := 2) Tryz.underlying148 rfl Tryz.sizeOf3 rfl rfl rfl) ?_
   refine wl_r (o_loadb (t := 3) Tryz.isAgg3 rfl hB (by rfl)) ?_
   refine za rfl (wl_nil (zs (zm rfl ?_)))
   refine zp (o_nil rfl) ?_
   refine zp (o_faddr (s := 148) (i := 2) (off := 2) Tryz.underlying148 rfl Tryz.sizeOf3 rfl rfl rfl) ?_
   refine wl_r (o_loadb (t := 3) Tryz.isAgg3 rfl hB (by rfl)) ?_
   refine zm rfl ?_
   refine zp (o_convi64 (src := 52) (dst := 3) Tryz.underlying52 Tryz.underlying3 rfl (by omega) (by omega)) ?_
   refine zp (o_add rfl rfl (by omega) (by omega)) ?_
   refine zp (o_nil rfl) ?_
   refine zp (o_faddr (s := 148) (i := 2) (off := 2) Tryz.underlying148 rfl Tryz.sizeOf3 rfl rfl rfl) ?_
   refine wl_store1 Tryz.sizeOf3 rfl rfl rfl hB (by simp) ?_
   intro w1 hB1 hg1 hz1
   have hg := grownBy_trans (grownBy_drew w (some g)) hg1
   refine wl_nil (rk_seq ?_)
   refine rk_draw (id := 8) (none) [0, 1, 2, 4, 0, 0, 32, 64, 128, 280, 1023, 2047] [0, 1, 3, 7, 0, 0, 32, 96, 224, 511, 1023, 2047] 0 0 [(.p, 0), (.p, 1), (.p, 2), (.r, 3), (.p, 4), (.p, 5), (.p, 6), (.p, 7), (.r, 8), (.p, 9), (.p, 10), (.p, 11)] (by kernel_rfl) (by kernel_rfl) (by kernel_rfl) (by kernel_rfl) (by kernel_rfl) ?_
   refine zm rfl ?_
   refine zp (o_nil rfl) ?_
   refine zp (o_faddr (s := 148) (i := 1) (off := 1) Tryz.underlying148 rfl Tryz.sizeOf35 rfl rfl rfl) ?_
   refine wl_r (o_loadb (t := 35) Tryz.isAgg35 rfl hB1 (by rfl)) ?_
   refine zm rfl (zm rfl ?_)
   refine zp (o_nil rfl) ?_
   refine zp (o_faddr (s := 148) (i := 2) (off := 2) Tryz.underlying148 rfl Tryz.sizeOf3 rfl rfl rfl) ?_
   refine wl_r (o_loadb (t := 3) Tryz.isAgg3 rfl hB1 (by rfl)) ?_
   refine zp (o_slice (lo := p) (hi := p + n) Tryz.underlying35 Tryz.sizeOf5 rfl rfl rfl rfl (by omega) (by omega) (by omega)) ?_
   refine za rfl (za rfl ?_)
   refine wl_nild ?_
   refine ret2 rfl rfl rfl ?_
   have hr1 := ((hr.grown hg (.inr hA)).cut (c := c) hp hc).take (k := n) (by simp; omega)
   exact ⟨grownBy_trans hg (grownBy_drew _ _), hz1, .inl ⟨rfl, by omega, ⟨A, c, by simpa using hB1.drew, (ho.kept hg (.inr hA)).drew, hc, by omega, hl, by simp⟩,
    cutA A c 1 p, c - p, by rw [Nat.add_sub_cancel_left], by omega, hr1.drew, by rw [blk_cutA]; exact hA⟩⟩

theorem C_fail {g : Nat} {l : List UInt8} {p e : Nat} {qi ei : Int} (q e' : Nat) (hqi : qi = q) (hei : ei = e') (w : World) (hR : RdrI w g l p e) (hq : q ≤ l.length) (he' : e' ≤ 100) :
  CallsR Tryz.prog 158 [.pointer (some ⟨g, 0, none⟩), .int .i64 qi, .int .i64 ei] w fun v w' => v = .tuple #[] ∧ w.grownBy w' (some g) ∧ w'.heap.size = w.heap.size ∧ RdrI w' g l q e' := by
 subst hqi; subst hei
 obtain ⟨A, c, hB, ho, hc, hp, hl, he⟩ := hR
 have hr := ho.rd
 have hA := ho.ne hB (by decide)
 refine callsR Tryz.func158 rfl rfl (by kernel_rfl) rfl ?_
 refine zs (zm rfl (zm rfl ?_))
 refine zp (o_nil rfl) ?_
 refine zp (o_faddr (s := 148) (i := 2) (off := 2) Tryz.underlying148 rfl Tryz.sizeOf3 rfl rfl rfl) ?_
 refine wl_store1 Tryz.sizeOf3 rfl rfl rfl hB (by simp) ?_
 intro w1 hB1 hg1 hz1
 refine wl_nil (rk_region (zm rfl (zm rfl ?_)))
 refine zp (o_nil rfl) ?_
 refine zp (o_faddr (s := 148) (i := 3) (off := 3) Tryz.underlying148 rfl Tryz.sizeOf27 rfl rfl rfl) ?_
 refine wl_store1 Tryz.sizeOf27 rfl rfl rfl hB1 (by simp) ?_
 intro w2 hB2 hg2 hz2
 have hg := grownBy_trans hg1 hg2
 refine wl_nil ?_
 refine end0 rfl ?_
 exact ⟨rfl, hg, by omega, A, c, by simpa using hB2, ho.kept hg (.inr hA), hc, hq, hl, he'⟩

theorem C_lz8 (c : UInt8) (w : World) : CallsR Tryz.prog 157 [.int .u8 (bits .xor .u8 255 c.toNat)] w fun v w' => v = .int .i64 (lead c - 1) ∧ w = w' :=
 ⟨⟨_, Tryz.func157, rfl, by kernel_rfl⟩, by
  have h1 : bits .xor .u8 255 (c.toNat : Int) = ((255 - c.toNat : Nat) : Int) := by
   have : ∀ c : Fin 256, bits .xor .u8 255 (c.val : Int) = ((255 - c.val : Nat) : Int) := by decide +kernel
   exact this ⟨c.toNat, c.toNat_lt⟩
  have h2 : 8 - (Lib.bitLen (255 - c.toNat) : Int) = lead c - 1 := by
   have : ∀ c : Fin 256, 8 - (Lib.bitLen (255 - c.val) : Int) = lead (UInt8.ofNat c.val) - 1 := by decide +kernel
   simpa using this ⟨c.toNat, c.toNat_lt⟩
  rw [h1]
  refine (Tryz.bits_LeadingZeros8 _ w (by omega) (by omega)).mono fun _ _ h => ⟨_, h.1, ?_, h.2.symm⟩
  rw [show (((255 - c.toNat : Nat) : Int)).toNat = 255 - c.toNat from by omega, h2]⟩

set_option maxHeartbeats 1000000 in
theorem C_RNumber {g : Nat} {l : List UInt8} {p e : Nat} (w : World) (hR : RdrI w g l p e) :
  CallsR Tryz.prog 147 [.pointer (some ⟨g, 0, none⟩)] w fun v w' => v = .int .u64 (rNumber (l.drop p, e)).1 ∧ w.grownBy w' (some g) ∧
   ∃ p', RdrI w' g l p' (rNumber (l.drop p, e)).2.2 ∧ (rNumber (l.drop p, e)).2.1 = l.drop p' := by
 refine callsR Tryz.func147 rfl rfl (by kernel_rfl) rfl ?_
 refine zs (za rfl (wl_nil (zs (zm rfl ?_))))
 refine wl_call rfl (C_take 1 rfl w hR) ?_
 rintro _ w13 ⟨hg13, hz13, h | h⟩
 ·obtain ⟨rfl, h1, hR13, A13, c13, rfl, hc13, hr13, hA13⟩ := h
  obtain ⟨c0, t, hdt⟩ : ∃ c0 t, l.drop p = c0 :: t := by
   cases hd : l.drop p with
   | nil => have := congrArg List.length hd; simp at this; omega
   | cons c0 t => exact ⟨c0, t, rfl⟩
  rw [hdt] at hr13 ⊢
  obtain ⟨A, c, hB, ho, hc, hp, hl, he⟩ := hR13
  have hlen : t.length + 1 = l.length - p := by have := congrArg List.length hdt; simpa using this.symm
  have hdt1 : l.drop (p + 1) = t := by rw [← List.drop_drop, hdt]; rfl
  obtain ⟨b, o, rfl, hb, hcell⟩ := hr13.at_ (by simp)
  have hc0 : w13.cell? ⟨b, o + 0, none⟩ = some (.int .u8 c0.toNat) := by simpa using hcell 0 (by simp)
  have hk := lead_bd c0
  refine zm rfl ?_
  refine zp (o_ext20 rfl) ?_
  refine zp (o_ext21 rfl) ?_
  refine za rfl (za rfl (wl_nil (rk_seq (zs (zm rfl ?_)))))
  refine zp (o_not rfl) ?_
  refine wl_nil ?_
  refine rk_false rfl ?_
  refine rk_skip (zs (zm rfl ?_))
  refine zp (o_nil rfl) ?_
  refine zp (o_faddr (s := 148) (i := 2) (off := 2) Tryz.underlying148 rfl Tryz.sizeOf3 rfl rfl rfl) ?_
  refine wl_r (o_loadb (t := 3) Tryz.isAgg3 rfl hB (by rfl)) ?_
  refine zp (o_sub rfl rfl (by omega) (by omega)) ?_
  refine za rfl (wl_nil (zs (zm rfl ?_)))
  refine zp (o_iaddr1 (j := 0) Tryz.underlying35 Tryz.sizeOf5 rfl rfl rfl (by omega)) ?_
  refine wl_r (o_load Tryz.isAgg5 rfl hc0) ?_
  refine zp (o_compl8 rfl) ?_
  refine wl_call rfl (C_lz8 c0 w13) ?_
  rintro _ w27 ⟨rfl, rfl⟩
  refine zp (o_asi (b := (lead c0 : Int)) (o_add rfl rfl (by omega) (by omega)) (by omega)) ?_
  refine za rfl (wl_nil (zs (zm rfl (zm rfl ?_))))
  refine zp (o_sub rfl rfl (by omega) (by omega)) ?_
  refine zp (o_convu64 (src := 3) (dst := 52) Tryz.underlying3 Tryz.underlying52 rfl (by omega) (by omega)) ?_
  refine wl_call rfl (C_take (lead c0 - 1) (by omega) w13 ⟨A, c, hB, ho, hc, hp, hl, he⟩) ?_
  rintro _ w34 ⟨hg34, hz34, h | h⟩
  ·obtain ⟨-, h34, hR34, A34, c34, rfl, hc34, hr34, hA34⟩ := h
   rw [hdt1] at hr34
   have htk : (t.take (lead c0 - 1)).length = lead c0 - 1 := by simp; omega
   have hc34' : w34.cell? ⟨b, o + 0, none⟩ = some (.int .u8 c0.toNat) := by
    have := (hr13.grown hg34 (.inr hA13)).at_ (by simp)
    obtain ⟨b', o', e, _, h⟩ := this
    injection e with e; injection e with e1 e2; subst e1; subst e2
    simpa using h 0 (by simp)
   refine zm rfl ?_
   refine zp (o_ext20 rfl) ?_
   refine zp (o_ext21 rfl) ?_
   refine za rfl (za rfl (wl_nil (rk_seq (zs (zm rfl ?_)))))
   refine zp (o_not rfl) ?_
   refine wl_nil ?_
   refine rk_false rfl ?_
   refine rk_skip (rk_seq ?_)
   refine rk_draw (id := 10) (none) [0, 1, 2, 0, 8, 20, 32, 127] [0, 1, 3, 0, 8, 31, 63, 127] 0 0 [(.p, 0), (.p, 1), (.r, 2), (.p, 3), (.p, 4), (.p, 5), (.p, 6), (.p, 7)] (by kernel_rfl) (by kernel_rfl) (by kernel_rfl) (by kernel_rfl) (by kernel_rfl) ?_
   refine zm rfl ?_
   refine zp (o_iaddr1 (j := 0) Tryz.underlying35 Tryz.sizeOf5 rfl rfl rfl (by omega)) ?_
   refine wl_r (o_load Tryz.isAgg5 rfl hc34') ?_
   refine zm rfl ?_
   refine zp (o_shr rfl rfl (by omega)) ?_
   refine zp (o_asi (o_and rfl rfl) (mask_byte c0)) ?_
   have hmk : c0.toNat % 2 ^ (8 - lead c0) < 256 := Nat.lt_of_le_of_lt (Nat.mod_le _ _) c0.toNat_lt
   refine zp (o_convu64 (src := 5) (dst := 52) Tryz.underlying5 Tryz.underlying52 rfl (by omega) (by omega)) ?_
   refine za rfl ?_
   refine wl_nild ?_
   refine rk_seq (zs (zm rfl ?_))
   refine zp (o_len (t := 35) Tryz.underlying35 rfl) ?_
   refine zm rfl (wl_nil (rk_block ?_))
   refine rk_loop (fun m fr w' => ∃ j v q, fr = [(0, .pointer (some ⟨g, 0, none⟩)), (5, .int .i64 q), (6, .int .i64 (lead c0)), (8, .int .u64 v), (53, .slice A34 (lead c0 - 1) c34), (54, .int .i64 (lead c0 - 1 : Nat)), (55, .int .i64 (j : Nat))] ∧
    q = (p : Int) ∧ m + j = lead c0 - 1 ∧ v = (beVal (c0.toNat % 2 ^ (8 - lead c0)) (t.take j) : Int) ∧ w' = w34.drew) (n := lead c0 - 1) (by repeat' constructor) ⟨0, _, _, rfl, by omega, by omega, by simp [beVal], rfl⟩ ?_
   rintro m fr w' ⟨j, v, q, rfl, hq, hm, hv, rfl⟩
   refine zs ?_
   refine zp (o_lt rfl rfl) ?_
   refine wl_nil (rk_seq ?_)
   refine rk_if rfl (fun h => ?_) (fun h => ?_)
   ·have hjt : j < t.length := by omega
    obtain ⟨b2, o2, rfl, -, hcell2⟩ := hr34.at_ (by intro e; rw [e] at htk; simp at htk; omega)
    have hcj : w34.drew.cell? ⟨b2, o2 + j, none⟩ = some (.int .u8 t[j].toNat) := by
     have := hcell2 j (by omega)
     rw [List.getElem_take] at this
     exact this
    have hlt := beVal_u64 c0 (t.take (j + 1)) (by rw [List.length_take]; omega)
    rw [List.take_succ_eq_append_getElem hjt, beVal_snoc] at hlt
    have h256 := Nat.lt_of_le_of_lt (Nat.le_add_right _ _) hlt
    subst hv
    refine rk_skip (rk_seq (rk_block (zs ?_)))
    refine zp (o_iaddr1 (j := j) Tryz.underlying35 Tryz.sizeOf5 rfl rfl rfl (by omega)) ?_
    refine wl_r (o_load Tryz.isAgg5 rfl hcj) ?_
    refine za rfl (wl_nil (rk_region (zm rfl ?_)))
    refine zp (o_shl rfl rfl (by omega)) ?_
    refine zm rfl ?_
    refine zp (o_convu64 (src := 5) (dst := 52) Tryz.underlying5 Tryz.underlying52 rfl (by omega) (by omega)) ?_
    refine zp (o_asi (o_or rfl rfl) (join_byte _ t[j] h256)) ?_
    refine za rfl (wl_nil ?_)
    refine rk_blk ?_
    refine rk_region ?_
    refine zp (o_add rfl rfl (by omega) (by omega)) ?_
    refine zm rfl (wl_nil ?_)
    exact rk_again (m := m - 1) (by repeat' constructor) ⟨j + 1, _, _, rfl, hq, by omega, by rw [List.take_succ_eq_append_getElem hjt, beVal_snoc], rfl⟩ (by omega)
   ·obtain rfl : j = lead c0 - 1 := by omega
    subst hv
    have hlt := beVal_u64 c0 (t.take (lead c0 - 1)) (by omega)
    have hnl : ¬ t.length + 1 < lead c0 := by omega
    have hg2 := grownBy_trans hg13 (grownBy_trans hg34 (grownBy_drew w34 _))
    refine rk_exit rfl ?_
    refine rk_seq (zs (zm rfl ?_))
    refine wl_call rfl (C_size _ _ hlt) ?_
    rintro _ w66 ⟨rfl, rfl⟩
    refine zm rfl ?_
    refine zp (o_ne rfl rfl) ?_
    refine wl_nil ?_
    refine rk_if rfl (fun h => ?_) (fun h => ?_)
    ·refine zs ?_
     refine zm rfl (zm rfl ?_)
     refine wl_call rfl (C_fail p 4 hq rfl _ hR34 (by omega) (by omega)) ?_
     rintro _ w71 ⟨rfl, hg71, hz71, hR71⟩
     refine wl_nil (zs (za rfl (wl_nil ?_)))
     refine ret1 rfl rfl ?_
     rw [rNumber_bad hnl (fun e => h (by rw [e]))]
     exact ⟨rfl, grownBy_trans hg2 hg71, p, hR71, hdt.symm⟩
    ·refine rk_skip ?_
     refine zs (zm rfl (za rfl (wl_nil ?_)))
     refine ret1 rfl rfl ?_
     rw [rNumber_ok hnl (by omega)]
     exact ⟨rfl, hg2, _, hR34, by rw [← List.drop_drop, hdt1]⟩
  ·obtain ⟨rfl, h34, hR34⟩ := h
   rw [if_pos rfl] at hR34
   have hR34' := hR34
   obtain ⟨A, c, hB, -⟩ := hR34'
   refine zm rfl ?_
   refine zp (o_ext20 rfl) ?_
   refine zp (o_ext21 rfl) ?_
   refine za rfl (za rfl (wl_nil (rk_seq (zs (zm rfl ?_)))))
   refine zp (o_not rfl) ?_
   refine wl_nil ?_
   refine rk_true rfl ?_
   refine zs (zm rfl (zm rfl (zm rfl ?_)))
   refine zp (o_nil rfl) ?_
   refine zp (o_faddr (s := 148) (i := 3) (off := 3) Tryz.underlying148 rfl Tryz.sizeOf27 rfl rfl rfl) ?_
   refine wl_r (o_loadb (t := 27) Tryz.isAgg27 rfl hB (by rfl)) ?_
   refine wl_call rfl (C_fail p 5 (by omega) rfl w34 hR34 (by omega) (by omega)) ?_
   rintro _ w45 ⟨rfl, hg45, hz45, hR45⟩
   refine wl_nil (zs (za rfl (wl_nil ?_)))
   refine ret1 rfl rfl ?_
   have := h34 rfl
   rw [rNumber_more (by omega)]
   exact ⟨rfl, grownBy_trans hg13 (grownBy_trans hg34 hg45), p, hR45, hdt.symm⟩
 ·obtain ⟨rfl, h1, hR13⟩ := h
  refine zm rfl ?_
  refine zp (o_ext20 rfl) ?_
  refine zp (o_ext21 rfl) ?_
  refine za rfl (za rfl (wl_nil (rk_seq (zs (zm rfl ?_)))))
  refine zp (o_not rfl) ?_
  refine wl_nil ?_
  refine rk_true rfl ?_
  refine zs (za rfl (wl_nil ?_))
  refine ret1 rfl rfl ?_
  by_cases he : e = 0
  ·subst he
   have hd : l.drop p = [] := List.drop_eq_nil_of_le (by have := h1 rfl; omega)
   exact ⟨by rw [hd, rNumber_nil]; rfl, hg13, p, by rw [hd, rNumber_nil]; exact hR13, by rw [hd, rNumber_nil]⟩
  ·rw [if_neg he] at hR13
   exact ⟨by rw [rNumber_err he]; rfl, hg13, p, by rw [rNumber_err he]; exact hR13, by rw [rNumber_err he]⟩

theorem RdrI.below {w w' : World} {g : Nat} {l : List UInt8} {p e : Nat} (h : RdrI w g l p e) (hb : Below w.heap.size w w') : RdrI w' g l p e := by
 obtain ⟨A, c, hB, ho, h⟩ := h
 exact ⟨A, c, hB.under hb, ho.below hb, h⟩
theorem RdrI.blk' {w : World} {g : Nat} {l : List UInt8} {p e : Nat} (h : RdrI w g l p e) : ∃ A c, Blk w g 148 [.pointer (some ⟨g, 0, none⟩), .slice A l.length c, .int .i64 p, .int .i64 e] ∧ p ≤ l.length ∧ l.length ≤ 140737488355328 ∧ e ≤ 100 := by
 obtain ⟨A, c, hB, ho, hc, hp, hl, he⟩ := h
 exact ⟨A, c, hB, hp, hl, he⟩

theorem C_RWord {g : Nat} {l : List UInt8} {p e : Nat} (size : Int) (w : World) (hR : RdrI w g l p e) :
  CallsR Tryz.prog 87 [.pointer (some ⟨g, 0, none⟩), .int .i64 size] w fun v w' => v = .int .u64 (rWord size (l.drop p, e)).1 ∧ w.grownBy w' (some g) ∧
   ∃ p', RdrI w' g l p' (rWord size (l.drop p, e)).2.2 ∧ (rWord size (l.drop p, e)).2.1 = l.drop p' := by
 obtain ⟨hk1, hk2, hk3⟩ := clampN_bd size
 refine callsR Tryz.func87 rfl rfl (by kernel_rfl) rfl ?_
 refine zs (za rfl (wl_nil (zs (zm rfl (zm rfl ?_)))))
 refine wl_call rfl (C_clamp size w) ?_
 rintro _ w1 ⟨rfl, rfl⟩
 rw [hk3]
 refine zp (o_convu64 (src := 3) (dst := 52) Tryz.underlying3 Tryz.underlying52 rfl (by omega) (by omega)) ?_
 refine wl_call rfl (C_take (clampN size) rfl w hR) ?_
 rintro _ w3 ⟨hg3, hz3, h | h⟩
 ·obtain ⟨rfl, h3, hR3, A3, c3, rfl, hc3, hr3, hA3⟩ := h
  have hb1 : rTake (clampN size) (l.drop p, 0) = ((l.drop p).take (clampN size), ((l.drop p).drop (clampN size), 0)) := by
   unfold rTake
   rw [if_neg (by simp), if_neg (by simp; omega)]
  unfold rWord
  rw [hb1]
  have hlen : ((l.drop p).take (clampN size)).length = clampN size := by simp; omega
  generalize (l.drop p).take (clampN size) = b at *
  refine zm rfl ?_
  refine zp (o_ext20 rfl) ?_
  refine zp (o_ext21 rfl) ?_
  refine za rfl (za rfl (wl_nil (rk_seq (zs (zm rfl ?_)))))
  refine zp (o_not rfl) ?_
  refine wl_nil ?_
  refine rk_false rfl ?_
  refine rk_skip (zs (za rfl (wl_nil (rk_seq (zs (zm rfl ?_))))))
  refine zp (o_len (t := 35) Tryz.underlying35 rfl) ?_
  refine zm rfl (wl_nil (rk_block ?_))
  refine rk_loop (fun m fr w' => ∃ j v, fr = [(7, .int .u64 v), (20, .slice A3 (clampN size) c3), (21, .int .i64 (clampN size : Nat)), (22, .int .i64 (j : Nat))] ∧ m + j = clampN size ∧ v = leVal (b.take j) ∧ w' = w3) (n := clampN size) (by repeat' constructor)
   ⟨0, _, rfl, by omega, by simp [leVal], rfl⟩ ?_
  rintro m fr w' ⟨j, v, rfl, hm, rfl, rfl⟩
  refine zs ?_
  refine zp (o_lt rfl rfl) ?_
  refine wl_nil (rk_seq ?_)
  refine rk_if rfl (fun h => ?_) (fun h => ?_)
  ·have hjb : j < b.length := by omega
   obtain ⟨b2, o2, rfl, -, hcell2⟩ := hr3.at_ (by intro e; rw [e] at hlen; simp at hlen; omega)
   have hcj := hcell2 j hjb
   have htl : (b.take j).length = j := by simp; omega
   have hby := b[j].toNat_lt
   refine rk_skip (rk_seq (rk_block (zs (zm rfl ?_))))
   refine zp (o_iaddr1 (j := j) Tryz.underlying35 Tryz.sizeOf5 rfl rfl rfl (by omega)) ?_
   refine wl_r (o_load Tryz.isAgg5 rfl hcj) ?_
   refine za rfl (za rfl (wl_nil (rk_region (zm rfl (zm rfl ?_)))))
   refine zp (o_convu64 (src := 5) (dst := 52) Tryz.underlying5 Tryz.underlying52 rfl (by omega) (by omega)) ?_
   refine zm rfl ?_
   refine zp (o_mul rfl rfl (by omega) (by omega)) ?_
   refine zp (o_shl rfl rfl (by omega)) ?_
   refine wl_p (fun _ => o_asi (b := (leVal (b.take (j + 1)) : Int)) (o_or rfl rfl) (by
    rw [List.take_succ_eq_append_getElem hjb, ← or_byte (b.take j) b[j] (by omega), htl])) ?_
   refine za rfl (wl_nil ?_)
   refine rk_blk ?_
   refine rk_region ?_
   refine zp (o_add rfl rfl (by omega) (by omega)) ?_
   refine zm rfl (wl_nil ?_)
   exact rk_again (m := m - 1) (by repeat' constructor) ⟨j + 1, _, rfl, by omega, rfl, rfl⟩ (by omega)
  ·obtain rfl : j = clampN size := by omega
   rw [List.take_of_length_le (Nat.le_of_eq hlen)]
   refine rk_exit rfl ?_
   refine zs (zm rfl (za rfl (wl_nil ?_)))
   refine ret1 rfl rfl ?_
   exact ⟨rfl, hg3, _, hR3, by rw [List.drop_drop]⟩
 ·obtain ⟨rfl, h3, hR3⟩ := h
  have hb1 : rTake (clampN size) (l.drop p, e) = ([], (l.drop p, if e = 0 then 5 else e)) := by
   unfold rTake
   by_cases he : e = 0
   ·rw [if_neg (by simp [he]), if_pos (by simp; exact h3 he), if_pos he]
   ·rw [if_pos he, if_neg he]
  unfold rWord
  rw [hb1]
  refine zm rfl ?_
  refine zp (o_ext20 rfl) ?_
  refine zp (o_ext21 rfl) ?_
  refine za rfl (za rfl (wl_nil (rk_seq (zs (zm rfl ?_)))))
  refine zp (o_not rfl) ?_
  refine wl_nil ?_
  refine rk_true rfl ?_
  refine zs (za rfl (wl_nil ?_))
  refine ret1 rfl rfl ?_
  exact ⟨rfl, hg3, p, hR3, rfl⟩

theorem C_RErr {g : Nat} {l : List UInt8} {p e : Nat} (w : World) (hR : RdrI w g l p e) :
  CallsR Tryz.prog 146 [.pointer (some ⟨g, 0, none⟩)] w fun v w' => v = .int .i64 e ∧ w = w' := by
 obtain ⟨A, c, hB, hp, hl, he⟩ := hR.blk'
 refine callsR Tryz.func146 rfl rfl (by kernel_rfl) rfl ?_
 refine zs (za rfl (wl_nil (rk_seq (zs (zm rfl ?_)))))
 refine wl_call rfl (C_made w hB) ?_
 rintro _ w1 ⟨rfl, rfl⟩
 refine zp (o_not rfl) ?_
 refine wl_nil ?_
 refine rk_false rfl ?_
 refine rk_skip (zs (zm rfl ?_))
 refine zp (o_nil rfl) ?_
 refine zp (o_faddr (s := 148) (i := 3) (off := 3) Tryz.underlying148 rfl Tryz.sizeOf27 rfl rfl rfl) ?_
 refine wl_r (o_loadb (t := 27) Tryz.isAgg27 rfl hB (by rfl)) ?_
 refine za rfl (wl_nil ?_)
 refine ret1 rfl rfl ?_
 exact ⟨rfl, rfl⟩

theorem C_RLeft {g : Nat} {l : List UInt8} {p e : Nat} (w : World) (hR : RdrI w g l p e) :
  CallsR Tryz.prog 148 [.pointer (some ⟨g, 0, none⟩)] w fun v w' => v = .int .i64 (l.drop p).length ∧ w.drew = w' := by
 obtain ⟨A, c, hB, hp, hl, he⟩ := hR.blk'
 refine callsR Tryz.func148 rfl rfl (by kernel_rfl) rfl ?_
 refine zs (za rfl (wl_nil (rk_seq (zs (zm rfl ?_)))))
 refine wl_call rfl (C_made w hB) ?_
 rintro _ w1 ⟨rfl, rfl⟩
 refine zp (o_not rfl) ?_
 refine wl_nil ?_
 refine rk_false rfl ?_
 refine rk_skip (rk_seq ?_)
 refine rk_draw (id := 3) (none) [0, 1, 2, 4, 8, 0, 32, 64, 128, 272, 1023] [0, 1, 3, 7, 15, 0, 32, 96, 224, 511, 1023] 0 0 [(.p, 0), (.p, 1), (.p, 2), (.r, 3), (.p, 4), (.p, 5), (.p, 6), (.p, 7), (.r, 8), (.p, 9), (.p, 10)] (by kernel_rfl) (by kernel_rfl) (by kernel_rfl) (by kernel_rfl) (by kernel_rfl) ?_
 refine zm rfl ?_
 refine zp (o_nil rfl) ?_
 refine zp (o_faddr (s := 148) (i := 1) (off := 1) Tryz.underlying148 rfl Tryz.sizeOf35 rfl rfl rfl) ?_
 refine wl_r (o_loadb (t := 35) Tryz.isAgg35 rfl hB (by rfl)) ?_
 refine zp (o_len (t := 35) Tryz.underlying35 rfl) ?_
 refine zm rfl ?_
 refine zp (o_nil rfl) ?_
 refine zp (o_faddr (s := 148) (i := 2) (off := 2) Tryz.underlying148 rfl Tryz.sizeOf3 rfl rfl rfl) ?_
 refine wl_r (o_loadb (t := 3) Tryz.isAgg3 rfl hB (by rfl)) ?_
 refine zp (o_sub rfl rfl (by omega) (by omega)) ?_
 refine za rfl ?_
 refine wl_nild ?_
 refine ret1 rfl rfl ?_
 exact ⟨by rw [List.length_drop]; congr 1; omega, rfl⟩

theorem Tryz.build_Reader (A : Option Addr) (n c : Nat) (w : World) : (Instr.build 148 ([1].zip [Value.slice A n c]).toArray).run Tryz.prog w = .ok (.agg #[.pointer none, .slice A n c, .int .i64 0, .int .i64 0]) w := by kernel_rfl

theorem C_Read {A : Option Addr} {l : List UInt8} {k : Nat} (c : Nat) (hk : k = l.length) (w : World) (hr : Rd w A l) (hl : l.length ≤ 140737488355328) :
  CallsR Tryz.prog 86 [.slice A k c] w fun v w' => ∃ g, v = .pointer (some ⟨g, 0, none⟩) ∧ w.heap.size ≤ g ∧ g < w'.heap.size ∧ RdrI w' g l 0 0 ∧ Below w.heap.size w w' := by
 refine callsR Tryz.func86 rfl rfl (by kernel_rfl) rfl ?_
 refine zs (za rfl (wl_nil (zs (zm rfl ?_))))
 refine wl_call rfl (C_grown c hk 0 w hr (by omega) (by omega)) ?_
 rintro _ w5 ⟨A5, c5, rfl, hown5, hb5⟩
 refine zp (o_build (is := [1]) (xs := [.tmp 5]) rfl (fun _ => Tryz.build_Reader _ _ _ _)) ?_
 refine wl_box [.pointer none, .slice A5 l.length c5, .int .i64 0, .int .i64 0] rfl rfl ?_
 intro w1 hB1 hb1 hz1
 refine za rfl (wl_nil (zs (zm rfl (zm rfl ?_))))
 refine zp (o_nil rfl) ?_
 refine zp (o_faddr (s := 148) (i := 0) (off := 0) Tryz.underlying148 rfl Tryz.sizeOf126 rfl rfl rfl) ?_
 refine wl_store1 Tryz.sizeOf126 rfl rfl rfl hB1 (by simp) ?_
 intro w6 hB6 hg6 hz6
 refine wl_nil (zs (zm rfl (za rfl (wl_nil ?_))))
 refine ret1 rfl rfl ?_
 have hlt := hown5.lt
 have hs5 := hb5.size
 have hb6 : Below w5.heap.size w5 w6 := hb1.trans (below_of_grownBy hg6 (by omega) (Nat.le_refl _))
 have hsz : w6.heap.size = w5.heap.size + 1 := by rw [hz6, hz1]
 have hA5 : blk A5 ≠ some w5.heap.size := fun e => by have := hlt _ e; omega
 have hc5 : l.length ≤ c5 := by
  rcases hown5.2 with ⟨h1, h2⟩ | ⟨g', cap, cur, h1, h2, h3, h4, h5⟩
  ·omega
  ·injection h1 with _ _ h1; omega
 exact ⟨w5.heap.size, rfl, hs5, by omega, ⟨A5, c5, by simpa using hB6, (hown5.below hb6).base (by omega), hc5, by omega, hl, by omega⟩, hb5.trans (hb6.mono hs5)⟩

end Go.Proofs.YtnnhenafhalobaaGreat
namespace Go.Proofs.YtnnhenafhalobaaGreat
set_option maxRecDepth 100000
open Go.RowKit
section
variable {N : Nat} {fr : Fr} {w w0 : World} {ty : TypeId} {x : Operand}
end
end Go.Proofs.YtnnhenafhalobaaGreat
namespace Go.Proofs.YtnnhenafhalobaaGreat
set_option maxRecDepth 100000
open Go.RowKit
theorem C_bEqual {A B : Option Addr} {a b : List UInt8} {n m c d : Nat} (w : World) (hA : Rd w A a) (hB : Rd w B b) (hn : n = a.length) (hm : m = b.length) :
  CallsR Tryz.prog 88 [.slice A n c, .slice B m d] w fun v w' => v = .bool (decide (a = b)) ∧ Below w.heap.size w w' := by
 subst hn; subst hm
 refine callsR Tryz.func88 rfl rfl (by kernel_rfl) rfl ?_
 have hw := Below.refl w.heap.size w
 refine zs (za rfl (wl_nil (zs (zm rfl ?_))))
 refine wl_r (o_strU Tryz.underlying35 Tryz.underlying5 Tryz.underlying9 rfl hA hw rfl) ?_
 refine zm rfl ?_
 refine wl_r (o_strU Tryz.underlying35 Tryz.underlying5 Tryz.underlying9 rfl hB hw rfl) ?_
 refine zp (o_seq rfl rfl) ?_
 refine za rfl (wl_nil ?_)
 refine ret1 rfl rfl ?_
 exact ⟨rfl, hw⟩
end Go.Proofs.YtnnhenafhalobaaGreat
namespace Go.Proofs.YtnnhenafhalobaaGreat
set_option maxRecDepth 100000
open Go.RowKit
section
variable {P : Program} {w : World} {lo hi sz n c bytes : Nat} {t ty e : TypeId} {z : Value} {A : Option Addr} {xs : List Value}
end
section
variable {α : Type} {X : GoT α} {e : TypeId} {w : World} {lo hi c : Nat} {A : Option Addr} {L : List α}
theorem part_drop {xs : List Value} {m i k : Nat} : part (xs.drop (k * m)) m i = part xs m (k + i) := by
 unfold part
 rw [List.drop_drop, Nat.add_mul]
end
section
variable {α : Type} {X : GoT α} {P : Program} {fn : Func} {F : Ending → World → Prop} {N : Nat} {ks : List K} {ops : Array Oper} {tg : Tags} {l : List Oper} {fr : Fr} {w : World} {ty t e : TypeId} {z : Value} {pos : String} {aft : Array Edge} {gd : Option (Nat × Bool)} {d n bytes c j q lo hi k m c' : Nat} {x y : Operand} {A B : Option Addr} {L M : List α}
end
inductive Res (P : Program) (fr : Fr) (w : World) : List ResultVar → List Value → Prop where
 | nil : Res P fr w [] []
 | tmp {q : Nat} {v : Value} {rs : List ResultVar} {vs : List Value} (h : fr.get q = some v) (r : Res P fr w rs vs) : Res P fr w (.tmp q :: rs) (v :: vs)
 | cell {p n g : Nat} {t t' : TypeId} {cs : List Value} {rs : List ResultVar} {vs : List Value} (hp : fr.get p = some (.pointer (some ⟨g, 0, none⟩))) (ha' : ∀ w, (isAgg t).run P w = .ok true w) (hs : ∀ w, (sizeOf t).run P w = .ok n w) (hB : Blk w g t' cs) (hn : cs.length = n) (r : Res P fr w rs vs) : Res P fr w (.cell p t :: rs) (.agg cs.toArray :: vs)
 | flat {p g : Nat} {t t' : TypeId} {v : Value} {rs : List ResultVar} {vs : List Value} (hp : fr.get p = some (.pointer (some ⟨g, 0, none⟩))) (ha' : ∀ w, (isAgg t).run P w = .ok false w) (hB : Blk w g t' [v]) (r : Res P fr w rs vs) : Res P fr w (.cell p t :: rs) (v :: vs)
def resOf (a : Act) (x : ResultVar) : Sem Value := match x with
 | .tmp t => pure (a.tmps.getD t undef)
 | .cell b t => do loadVar t (← asAddr (a.tmps.getD b undef))
theorem resOf_cell {P : Program} {a : Act} {w : World} {p g : Nat} {t : TypeId} {v : Value} (hp : a.tmps.getD p undef = .pointer (some ⟨g, 0, none⟩)) (hl : (loadVar t ⟨g, 0, none⟩).run P w = .ok v w) : (resOf a (.cell p t)).run P w = .ok v w := by
 simp only [resOf, hp, asAddr, Sem.run_bind, Sem.run_pure, Result.andThen_ok, hl]
theorem Res.run {P : Program} {N : Nat} {a : Act} {fr : Fr} {w : World} (ha : Rep N a fr) {rs : List ResultVar} {vs : List Value} (h : Res P fr w rs vs) : (rs.mapM (resOf a)).run P w = .ok vs w := by
 have cons : ∀ {x : ResultVar} {v : Value} {rs : List ResultVar} {vs : List Value}, (resOf a x).run P w = .ok v w → (rs.mapM (resOf a)).run P w = .ok vs w → ((x :: rs).mapM (resOf a)).run P w = .ok (v :: vs) w := by
  intro x v rs vs h1 h2
  rw [List.mapM_cons]
  simp only [Sem.run_bind, Sem.run_pure, Result.andThen_ok, h1, h2]
 induction h with
 | nil => simp
 | @tmp q v rs vs h r ih =>
  have hv : a.tmps.getD q undef = v := ha.ev (x := .tmp q) h
  exact cons (by simp only [resOf, hv, Sem.run_pure]) ih
 | @cell p n g t t' cs rs vs hp ha' hs hB hn r ih =>
  have hp' : a.tmps.getD p undef = .pointer (some ⟨g, 0, none⟩) := ha.ev (x := .tmp p) hp
  subst hn
  have hl : (loadCells ⟨g, 0, none⟩ cs.length).run P w = .ok cs.toArray w := run_loadCells_list (P := P) w ⟨g, 0, none⟩ cs (fun j u hu => by rw [add_plain, hB.cell, Nat.zero_add]; exact hu)
  exact cons (resOf_cell hp' (by simp [loadVar, ha', hs, hl])) ih
 | @flat p g t t' v rs vs hp ha' hB r ih =>
  have hp' : a.tmps.getD p undef = .pointer (some ⟨g, 0, none⟩) := ha.ev (x := .tmp p) hp
  have hc : w.cell? ⟨g, 0, none⟩ = some v := by rw [hB.cell]; rfl
  exact cons (resOf_cell hp' (by simp [loadVar, ha', hc])) ih
theorem ret_any {P : Program} {fn : Func} {N : Nat} {ks : List K} {fr : Fr} {w : World} {rs : List ResultVar} {vs : List Value} {R : Value → World → Prop} (h : fn.results = rs.toArray) (hr : Res P fr w rs vs) (hn : vs.length ≠ 1) (hR : R (.tuple vs.toArray) w) : RK P fn (fun e w' => ∃ v, e = .returned v ∧ R v w') N (.code .ret :: ks) fr w :=
 rk_ret (F := fun e w' => ∃ v, e = .returned v ∧ R v w') (fun a ha => ⟨.tuple vs.toArray, by
  have hrun := hr.run ha
  have h2 : (rs.toArray.mapM (resOf a)).run P w = .ok vs.toArray w := by
   rw [List.mapM_toArray, Sem.run_map, hrun]; rfl
  have e : results fn a.tmps = (do
    let vs ← rs.toArray.mapM (resOf a)
    pure (if h : vs.size = 1 then vs[0] else .tuple vs)) := by rw [← h]; rfl
  rw [e]
  simp only [Sem.run_bind, h2, Result.andThen_ok, Sem.run_pure]
  simp [hn], ⟨_, rfl, hR⟩⟩)
end Go.Proofs.YtnnhenafhalobaaGreat
namespace Go.Proofs.YtnnhenafhalobaaGreat
set_option maxRecDepth 100000
open Go.RowKit
def blkB (p : By) : By := enc p.length ++ p
theorem enc_le9 (n : Nat) : (enc n).length ≤ 9 := by
 rw [enc_length]; unfold room; (repeat' split) <;> omega
theorem blkB_le {p : By} {n : Nat} (h : p.length ≤ n) : (blkB p).length ≤ n + 9 := by
 have h1 := enc_le9 p.length
 simp only [blkB, List.length_append]; omega
def wB8 (n : Nat) : By := leB 8 n
theorem wB8_len (n : Nat) : (wB8 n).length = 8 := leB_length 8 _
abbrev Rc := UInt8 × By
def bodyB (r : Rc) : By := [r.1] ++ blkB r.2
theorem bodyB_le {r : Rc} {n : Nat} (h : r.2.length ≤ n) : (bodyB r).length ≤ n + 10 := by
 have := blkB_le h
 simp only [bodyB, List.length_append, List.length_singleton]; omega
def sumB (L : List By) : By := (bytesU (runU Ul (padU L.flatten))).take 32
theorem sumB_len (L : List By) : (sumB L).length = 32 := by
 unfold sumB; rw [List.length_take, bytesU_len]; rfl
def nextB (d : By) (r : Rc) : By := sumB [d, bodyB r]
theorem nextB_len (d : By) (r : Rc) : (nextB d r).length = 32 := sumB_len _
def bytesR (d : By) (r : Rc) : By := bodyB r ++ (nextB d r).take 8
def nul32 : By := List.replicate 32 0
def OkR (r : Rc) : Prop := r.1 ≠ 0 ∧ r.2.length ≤ 8192
instance (r : Rc) : Decidable (OkR r) := by unfold OkR; infer_instance
theorem C_Word8 {z k : Int} {n : Nat} (w : World) (hz : z = n) (hn : n < 18446744073709551616) (hk : k = 8) :
  CallsR Tryz.prog 77 [.slice none 0 0, .int .u64 z, .int .i64 k] w fun v w' => ∃ A' c', v = .slice A' (wB8 n).length c' ∧ OwnH w' w.heap.size w'.heap.size A' c' (wB8 n) ∧ Below w.heap.size w w' := by
 subst hz; subst hk
 refine (C_Word (A := none) (l := []) 0 n 8 w (Rd.nil _ _) (by unfold u64; omega) (by simp)).mono ?_
 rintro v w' ⟨A', c', rfl, h, hb⟩
 exact ⟨A', c', rfl, h.h_, hb⟩
theorem C_NumberN {z : Int} {n : Nat} (w : World) (hz : z = n) (hn : n < 18446744073709551616) :
  CallsR Tryz.prog 85 [.slice none 0 0, .int .u64 z] w fun v w' => ∃ A' c', v = .slice A' (enc n).length c' ∧ Below w.heap.size w w' := by
 subst hz
 refine (C_Number (A := none) (l := []) 0 n w (Rd.nil _ _) (by unfold u64; omega) (by simp)).mono ?_
 rintro v w' ⟨A', c', rfl, h, hb⟩
 exact ⟨A', c', rfl, hb⟩
theorem C_BlockR {A X : Option Addr} {l p : By} {n k c d : Nat} (w : World) (hA : Rd w A l) (hp : Rd w X p) (hn : n = l.length) (hk : k = p.length) (hl : l.length ≤ 4000000000) (hl2 : p.length ≤ 4000000000) :
  CallsR Tryz.prog 105 [.slice A n c, .slice X k d] w fun v w' => ∃ A' c', v = .slice A' (l ++ blkB p).length c' ∧ OwnH w' w.heap.size w'.heap.size A' c' (l ++ blkB p) ∧ Below w.heap.size w w' := by
 subst hn; subst hk
 refine (C_Block c d w hA hp (by omega)).mono ?_
 rintro v w' ⟨A', c', rfl, h, hb⟩
 unfold blkB
 rw [← List.append_assoc]
 exact ⟨A', c', rfl, h.h_, hb⟩
theorem C_First {z : Int} {n : Nat} {r : By} (w : World) (hz : z = n) (hn : n < 18446744073709551616) (hr : sumB [wB8 n] = r) :
  CallsR Tryz.prog 55 [.int .u64 z] w fun v w' => v = .agg (B8 r).toArray ∧ Below w.heap.size w w' := by
 subst hz
 have h8 := wB8_len n
 have h32 : r.length = 32 := by rw [← hr, sumB_len]
 unfold sumB at hr
 refine callsR Tryz.func55 rfl rfl (by kernel_rfl) rfl ?_
 have hw := Below.refl w.heap.size w
 refine zs ?_
 refine wl_allocB Tryz.underlying64 Tryz.zeroValue64 (by rfl) ?_
 rintro g2 w2 f2 b2 i2 i2_1
 have s2 := b2.size
 replace hw := hw.trans (b2.mono hw.size)
 refine wl_nil (zs (zm rfl ?_))
 refine wl_call rfl (C_Word8 _ rfl (by omega) rfl) ?_
 rintro v4 w4 ⟨A4, ⟨c4, ⟨rfl, ⟨f4, b4⟩⟩⟩⟩
 have qf4 := f4.cap
 have s4 := b4.size
 replace hw := hw.trans (b4.mono hw.size)
 replace f2 := f2.u b4
 refine wl_litK1 (by rfl) rfl f4.to_RdT rfl (by omega) (own_max' (by assumption)) (by rfl) ?_
 rintro A5 w5 f5 b5
 have s5 := b5.size
 replace hw := hw.trans (b5.mono hw.size)
 replace f2 := f2.u b5
 replace f4 := f4.u b5
 refine wl_call rfl (C_Sum _ f5 hr (by rfl) (by simp) (by simp; omega)) ?_
 rintro v6 w6 ⟨rfl, b6⟩
 have s6 := b6.size
 replace hw := hw.trans (b6.mono hw.size)
 replace f4 := f4.u b6
 replace f2 := f2.u b6
 replace f5 := f5.u b6
 refine wl_stBa Tryz.sizeOf64 rfl f2 rfl h32 (by rfl) ?_
 rintro w_1 f g e
 have s := g.size
 replace hw := hw.trans (below_of_grownBy g.g hw.size (by omega))
 replace f4 := f4.k g.g (ap_some (by omega))
 clear f5
 clear f2
 refine wl_nil ?_
 refine ret_cell rfl rfl Tryz.isAgg64 Tryz.sizeOf64 (show Blk _ _ _ (B8 r) by assumption) (by rw [B8_length, h32]) ?_
 exact ⟨rfl, hw⟩
theorem C_body {k : UInt8} {A : Option Addr} {p : By} {n c : Nat} (w : World) (hp : Rd w A p) (hn : n = p.length) (hl : p.length ≤ 10000) :
  CallsR Tryz.prog 82 [.agg #[.int .u8 (k.toNat : Int), .slice A n c]] w fun v w' => ∃ A' c', v = .slice A' (bodyB (k, p)).length c' ∧ OwnH w' w.heap.size w'.heap.size A' c' (bodyB (k, p)) ∧ Below w.heap.size w w' := by
 subst hn
 refine callsR Tryz.func82 rfl rfl (by kernel_rfl) rfl ?_
 have hw := Below.refl w.heap.size w
 refine zs ?_
 refine wl_boxg [_, _] rfl (by rfl) ?_
 rintro g1 w1 f1 b1 i1 i1_1
 have s1 := b1.size
 replace hw := hw.trans (b1.mono hw.size)
 refine za rfl (wl_nil (zs ?_))
 refine zp (o_faddr (s := 37) (i := 0) (off := 0) Tryz.underlying37 rfl Tryz.sizeOf5 rfl rfl rfl) ?_
 refine wl_r (o_loadbg Tryz.isAgg5 rfl f1 (by rfl)) ?_
 refine wl_litB [k] Tryz.u8 Tryz.sizeOf5 Tryz.zeroValue5 (by rfl) rfl rfl (by rfl) (by rfl) (by rfl) ?_
 rintro A5 w5 f5 b5
 have qf5 := f5.cap
 have s5 := b5.size
 replace hw := hw.trans (b5.mono hw.size)
 replace f1 := f1.u b5
 refine zp (o_faddr (s := 37) (i := 1) (off := 1) Tryz.underlying37 rfl Tryz.sizeOf35 rfl rfl rfl) ?_
 refine wl_r (o_loadbg Tryz.isAgg35 rfl f1 (by rfl)) ?_
 refine wl_call rfl (C_BlockR _ f5.to_Rd (hp.u hw) (by rfl) rfl (by omega) (by omega)) ?_
 rintro v8 w8 ⟨A8, ⟨c8, ⟨rfl, ⟨f8, b8⟩⟩⟩⟩
 have qf8 := f8.cap
 have s8 := b8.size
 replace hw := hw.trans (b8.mono hw.size)
 replace f1 := f1.u b8
 replace f5 := f5.u b8
 refine za rfl (wl_nil ?_)
 refine ret1 rfl rfl ?_
 exact ⟨_, _, rfl, f8.base (by omega) (Nat.le_refl _), hw⟩
theorem C_Check {k : UInt8} {A : Option Addr} {p : By} {n c : Nat} (w : World) (hn : n = p.length) :
  CallsR Tryz.prog 56 [.agg #[.int .u8 (k.toNat : Int), .slice A n c]] w fun v w' => ∃ z : Int, v = .int .i64 z ∧ (z = 0 ∨ z = 2) ∧ (z = 0 ↔ OkR (k, p)) ∧ Below w.heap.size w w' := by
 subst hn
 by_cases h0 : (k.toNat : Int) = 0
 ·have e0 : k = 0 := UInt8.toNat_inj.1 (by simp; omega)
  refine callsR Tryz.func56 rfl rfl (by kernel_rfl) rfl ?_
  have hw := Below.refl w.heap.size w
  refine zs ?_
  refine wl_boxg [_, _] rfl (by rfl) ?_
  rintro g1 w1 f1 b1 i1 i1_1
  have s1 := b1.size
  replace hw := hw.trans (b1.mono hw.size)
  refine za rfl (wl_nil (rk_seq (zs ?_)))
  refine zp (o_faddr (s := 37) (i := 0) (off := 0) Tryz.underlying37 rfl Tryz.sizeOf5 rfl rfl rfl) ?_
  refine wl_r (o_loadbg Tryz.isAgg5 rfl f1 (by rfl)) ?_
  refine zp (o_eq rfl rfl) ?_
  refine zm rfl ?_
  refine wl_know 6 true rfl (decide_eq_true (by omega)) ?_
  refine wl_off (wl_off (wl_off (wl_off ?_)))
  refine zp (o_pick_t rfl rfl) ?_
  refine wl_nil ?_
  refine rk_true rfl ?_
  refine zs (za rfl (wl_nil ?_))
  rw [decide_eq_true h0]
  refine ret1 rfl rfl ?_
  exact ⟨_, rfl, .inr rfl, ⟨fun h => absurd h (by decide), fun h => absurd e0 h.1⟩, hw⟩
 ·have e0 : k ≠ 0 := fun e => h0 (by rw [e]; rfl)
  refine callsR Tryz.func56 rfl rfl (by kernel_rfl) rfl ?_
  have hw := Below.refl w.heap.size w
  refine zs ?_
  refine wl_boxg [_, _] rfl (by rfl) ?_
  rintro g1 w1 f1 b1 i1 i1_1
  have s1 := b1.size
  replace hw := hw.trans (b1.mono hw.size)
  refine za rfl (wl_nil (rk_seq (zs ?_)))
  refine zp (o_faddr (s := 37) (i := 0) (off := 0) Tryz.underlying37 rfl Tryz.sizeOf5 rfl rfl rfl) ?_
  refine wl_r (o_loadbg Tryz.isAgg5 rfl f1 (by rfl)) ?_
  refine zp (o_eq rfl rfl) ?_
  refine zm rfl ?_
  refine wl_know 6 false rfl (decide_eq_false (by omega)) ?_
  refine zp (o_faddr (s := 37) (i := 1) (off := 1) Tryz.underlying37 rfl Tryz.sizeOf35 rfl rfl rfl) ?_
  refine wl_r (o_loadbg Tryz.isAgg35 rfl f1 (by rfl)) ?_
  refine zp (o_len (t := 35) Tryz.underlying35 rfl) ?_
  refine zp (o_gt rfl rfl) ?_
  refine zp (o_pick_f rfl rfl) ?_
  refine wl_nil ?_
  rw [decide_eq_false h0]
  refine rk_if rfl (fun h11 => ?_) (fun h11 => ?_)
  ·refine zs ?_
   refine za rfl (wl_nil ?_)
   refine ret1 rfl rfl ?_
   exact ⟨_, rfl, .inr rfl, ⟨fun h => absurd h (by decide), fun h => absurd h.2 (by show ¬ p.length ≤ 8192; omega)⟩, hw⟩
  ·refine rk_skip ?_
   refine zs (za rfl (wl_nil ?_))
   refine ret1 rfl rfl ?_
   exact ⟨_, rfl, .inl rfl, ⟨fun _ => ⟨e0, show p.length ≤ 8192 by omega⟩, fun _ => rfl⟩, hw⟩
theorem C_Size {k : UInt8} {A : Option Addr} {p : By} {n c : Nat} (w : World) (hn : n = p.length) (hl : p.length ≤ 10000) (hp : Rd w A p) :
  CallsR Tryz.prog 57 [.agg #[.int .u8 (k.toNat : Int), .slice A n c]] w fun v w' => v = .int .i64 (if OkR (k, p) then ((bodyB (k, p)).length : Int) + 8 else 0) ∧ Below w.heap.size w w' := by
 subst hn
 have he := enc_le9 p.length
 refine callsR Tryz.func57 rfl rfl (by kernel_rfl) rfl ?_
 have hw := Below.refl w.heap.size w
 refine zs ?_
 refine wl_boxg [_, _] rfl (by rfl) ?_
 rintro g1 w1 f1 b1 i1 i1_1
 have s1 := b1.size
 replace hw := hw.trans (b1.mono hw.size)
 refine za rfl (wl_nil (rk_seq (zs ?_)))
 refine wl_r (o_loadag Tryz.isAgg37 Tryz.sizeOf37 rfl f1 (by rfl)) ?_
 refine wl_call rfl (C_Check _ (by rfl)) ?_
 rintro v4 w4 ⟨z4, ⟨rfl, ⟨i4, ⟨i4_1, b4⟩⟩⟩⟩
 have s4 := b4.size
 replace hw := hw.trans (b4.mono hw.size)
 replace f1 := f1.u b4
 refine zp (o_ne rfl rfl) ?_
 refine wl_nil ?_
 refine rk_if rfl (fun h5 => ?_) (fun h5 => ?_)
 ·refine zs ?_
  refine za rfl (wl_nil ?_)
  refine ret1 rfl rfl ?_
  exact ⟨by rw [if_neg (fun h => by have := i4_1.2 h; omega)], hw⟩
 ·have hO : OkR (k, p) := i4_1.1 (by omega)
  refine rk_skip (rk_seq ?_)
  refine rk_drawo (id := 3) (none) [0, 1, 2, 4, 8, 16, 32, 0, 128, 256, 576, 1024, 4095] [0, 1, 3, 7, 15, 31, 63, 0, 128, 384, 1023, 2047, 4095] 16 16 [0, 1, 2, 3, 7, 8, 9, 4, 5, 6, 10, 11, 12] [(.p, 0), (.r, 1), (.p, 2), (.p, 3), (.p, 7), (.s, 8), (.p, 9), (.c, 4), (.p, 5), (.p, 6), (.p, 10), (.p, 11), (.p, 12)] (by kernel_rfl) (by kernel_rfl) (by kernel_rfl) (by kernel_rfl) (by kernel_rfl) ?_
  dsimp only [inOrder, nthOp]
  replace hw := hw.drew
  replace f1 := f1.d
  refine zp (o_faddr (s := 37) (i := 1) (off := 1) Tryz.underlying37 rfl Tryz.sizeOf35 rfl rfl rfl) ?_
  refine wl_r (o_loadbg Tryz.isAgg35 rfl f1 (by rfl)) ?_
  refine zp (o_len (t := 35) Tryz.underlying35 rfl) ?_
  refine zp (o_convu64 (src := 3) (dst := 52) Tryz.underlying3 Tryz.underlying52 rfl (by omega) (by omega)) ?_
  refine zp (o_faddr (s := 37) (i := 1) (off := 1) Tryz.underlying37 rfl Tryz.sizeOf35 rfl rfl rfl) ?_
  refine wl_s (fun _ hk => (o_loadbg Tryz.isAgg35 rfl (f1.u (below_of_grown_none hk)) (by rfl))) ?_
  refine zp (o_len (t := 35) Tryz.underlying35 rfl) ?_
  refine wl_call rfl (C_NumberN _ rfl (by omega)) ?_ (hq := .inr fun _ _ h => grown_of_below h.choose_spec.choose_spec.2 _)
  rintro v10 w10 ⟨A10, ⟨c10, ⟨rfl, b10⟩⟩⟩
  simp only [drew_size] at b10
  have s10 := b10.size
  simp only [drew_size] at s10
  replace hw := hw.trans (b10.mono hw.size)
  replace f1 := f1.u b10
  refine zp (o_len (t := 35) Tryz.underlying35 rfl) ?_
  refine zp (o_add rfl rfl (by omega) (by omega)) ?_
  refine zp (o_add rfl rfl (by omega) (by omega)) ?_
  refine zp (o_add rfl rfl (by omega) (by omega)) ?_
  refine za rfl ?_
  refine wl_nild ?_
  refine ret1 rfl rfl ?_
  exact ⟨by
   rw [if_pos hO]
   simp only [bodyB, blkB, List.length_append, List.length_singleton]
   congr 1; omega, hw⟩
theorem C_Next {k : UInt8} {A : Option Addr} {p d r : By} {n c : Nat} (w : World) (hp : Rd w A p) (hn : n = p.length) (hl : p.length ≤ 9000) (hd : d.length = 32) (hr : nextB d (k, p) = r) :
  CallsR Tryz.prog 126 [.agg (B8 d).toArray, .agg #[.int .u8 (k.toNat : Int), .slice A n c]] w fun v w' => v = .agg (B8 r).toArray ∧ Below w.heap.size w w' := by
 subst hn
 have h32 : r.length = 32 := by rw [← hr, nextB, sumB_len]
 have hbl := bodyB_le (r := (k, p)) hl
 have hL2 : ∀ x ∈ [d, bodyB (k, p)], x.length ≤ 10000 := by
  intro x hx
  rcases List.mem_cons.1 hx with rfl | hx
  ·omega
  ·obtain rfl := List.mem_singleton.1 hx; omega
 unfold nextB sumB at hr
 refine callsR Tryz.func126 rfl rfl (by kernel_rfl) rfl ?_
 have hw := Below.refl w.heap.size w
 refine zs ?_
 refine wl_boxg _ rfl (by rfl) ?_
 rintro g2 w2 f2 b2 i2 i2_1
 have s2 := b2.size
 replace hw := hw.trans (b2.mono hw.size)
 refine wl_boxg [_, _] rfl (by rfl) ?_
 rintro g3 w3 f3 b3 i3 i3_1
 have s3 := b3.size
 replace hw := hw.trans (b3.mono hw.size)
 replace f2 := f2.u b3
 refine wl_allocB Tryz.underlying64 Tryz.zeroValue64 (by rfl) ?_
 rintro g4 w4 f4 b4 i4 i4_1
 have s4 := b4.size
 replace hw := hw.trans (b4.mono hw.size)
 replace f2 := f2.u b4
 replace f3 := f3.u b4
 refine wl_nil (rk_seq ?_)
 refine rk_draw (id := 1) (none) [0, 0, 2, 5, 12, 31] [0, 0, 2, 7, 15, 31] 60 0 [(.p, 0), (.r, 1), (.l, 2), (.l, 3), (.l, 4), (.l, 5)] (by kernel_rfl) (by kernel_rfl) (by kernel_rfl) (by kernel_rfl) (by kernel_rfl) ?_
 replace hw := hw.drew
 replace f3 := f3.d
 replace f2 := f2.d
 replace f4 := f4.d
 refine zp (o_slice_arr (t := 64) Tryz.underlying64 Tryz.sizeOf5 rfl) ?_
 refine wl_r (o_loadag Tryz.isAgg37 Tryz.sizeOf37 rfl f3 (by rfl)) ?_
 refine wl_call rfl (C_body _ (hp.u hw) rfl (by omega)) ?_
 rintro v7 w7 ⟨A7, ⟨c7, ⟨rfl, ⟨f7, b7⟩⟩⟩⟩
 simp only [drew_size] at f7
 simp only [drew_size] at b7
 have qf7 := f7.cap
 have s7 := b7.size
 simp only [drew_size] at s7
 replace hw := hw.trans (b7.mono hw.size)
 replace f4 := f4.u b7
 replace f2 := f2.u b7
 replace f3 := f3.u b7
 refine wl_litKr2 (by rfl) rfl f2.to_Rd f7.to_Rd (by omega) rfl (by omega) (by omega) (by omega) (own_max' (by assumption)) (by rfl) ?_
 rintro A8 w8 f8 b8
 have s8 := b8.size
 replace hw := hw.trans (b8.mono hw.size)
 replace f3 := f3.u b8
 replace f2 := f2.u b8
 replace f4 := f4.u b8
 replace f7 := f7.u b8
 refine wl_call rfl (C_Sum _ f8 hr (by rfl) (by simp) (by omega)) ?_
 rintro v9 w9 ⟨rfl, b9⟩
 have s9 := b9.size
 replace hw := hw.trans (b9.mono hw.size)
 replace f7 := f7.u b9
 replace f4 := f4.u b9
 replace f2 := f2.u b9
 replace f3 := f3.u b9
 replace f8 := f8.u b9
 refine wl_stBa Tryz.sizeOf64 rfl f4 rfl h32 (by rfl) ?_
 rintro w_1 f g e
 have s := g.size
 replace hw := hw.trans (below_of_grownBy g.g hw.size (by omega))
 replace f3 := f3.k g.g (ap_some (by omega))
 replace f2 := f2.k g.g (ap_some (by omega))
 replace f7 := f7.k g.g (ap_some (by omega))
 clear f8
 clear f4
 refine wl_nild ?_
 refine ret_cell rfl rfl Tryz.isAgg64 Tryz.sizeOf64 (show Blk _ _ _ (B8 r) by assumption) (by rw [B8_length, h32]) ?_
 exact ⟨rfl, hw⟩
theorem C_RecBytes {k : UInt8} {A : Option Addr} {p d : By} {n c : Nat} (w : World) (hp : Rd w A p) (hn : n = p.length) (hl : p.length ≤ 9000) (hd : d.length = 32) :
  CallsR Tryz.prog 50 [.agg (B8 d).toArray, .agg #[.int .u8 (k.toNat : Int), .slice A n c]] w fun v w' => ∃ (A' : Option Addr) (bs : By) (c' : Nat) (e : By) (z : Int), v = .tuple #[.slice A' bs.length c', .agg (B8 e).toArray, .int .i64 z] ∧ OwnH w' w.heap.size w'.heap.size A' c' bs ∧ (z = 0 ∨ z = 2) ∧ (z = 0 ↔ OkR (k, p)) ∧ (z = 0 → bs = bytesR d (k, p) ∧ e = nextB d (k, p)) ∧ (z ≠ 0 → bs = []) ∧ e.length = 32 ∧ Below w.heap.size w w' := by
 subst hn
 obtain ⟨r, hr⟩ : ∃ r, nextB d (k, p) = r := ⟨_, rfl⟩
 have h32 : r.length = 32 := by rw [← hr, nextB_len]
 have hbl := bodyB_le (r := (k, p)) hl
 unfold bytesR
 rw [hr]
 have hL2 : ∀ x ∈ [d, bodyB (k, p)], x.length ≤ 10000 := by
  intro x hx
  rcases List.mem_cons.1 hx with rfl | hx
  ·omega
  ·obtain rfl := List.mem_singleton.1 hx; omega
 unfold nextB sumB at hr
 refine callsR Tryz.func50 rfl rfl (by kernel_rfl) rfl ?_
 have hw := Below.refl w.heap.size w
 refine zs ?_
 refine wl_boxg _ rfl (by rfl) ?_
 rintro g2 w2 f2 b2 i2 i2_1
 have s2 := b2.size
 replace hw := hw.trans (b2.mono hw.size)
 refine wl_boxg [_, _] rfl (by rfl) ?_
 rintro g3 w3 f3 b3 i3 i3_1
 have s3 := b3.size
 replace hw := hw.trans (b3.mono hw.size)
 replace f2 := f2.u b3
 refine za rfl ?_
 refine wl_allocB Tryz.underlying64 Tryz.zeroValue64 (by rfl) ?_
 rintro g5 w5 f5 b5 i5 i5_1
 have s5 := b5.size
 replace hw := hw.trans (b5.mono hw.size)
 replace f2 := f2.u b5
 replace f3 := f3.u b5
 refine za rfl (wl_nil (rk_seq (zs ?_)))
 refine wl_r (o_loadag Tryz.isAgg37 Tryz.sizeOf37 rfl f3 (by rfl)) ?_
 refine wl_call rfl (C_Check _ (by rfl)) ?_
 rintro v11 w11 ⟨z11, ⟨rfl, ⟨i11, ⟨i11_1, b11⟩⟩⟩⟩
 have s11 := b11.size
 replace hw := hw.trans (b11.mono hw.size)
 replace f3 := f3.u b11
 replace f2 := f2.u b11
 replace f5 := f5.u b11
 refine za rfl (wl_nil (zs (zm rfl ?_)))
 refine zp (o_ne rfl rfl) ?_
 refine wl_nil ?_
 refine rk_if rfl (fun h13 => ?_) (fun h13 => ?_)
 ·refine zs ?_
  refine zp (o_buildga [_, _, _, _, _, _, _, _, _, _, _, _, _, _, _, _, _, _, _, _, _, _, _, _, _, _, _, _, _, _, _, _] Tryz.underlying64 Tryz.sizeOf5 Tryz.zeroValue64 (by rfl) (by rfl) rfl (by rfl) (by rfl) (fun _ => by kernel_rfl)) ?_
  refine zm rfl (za rfl ?_)
  refine wl_storega Tryz.sizeOf64 rfl rfl (by rfl) (by decide) f5 (by rfl) ?_
  rintro w_1 f g e
  have s := g.size
  replace hw := hw.trans (below_of_grownBy g.g hw.size (by omega))
  replace f2 := f2.k g.g (ap_some (by omega))
  replace f3 := f3.k g.g (ap_some (by omega))
  clear f5
  refine za rfl (wl_nil ?_)
  refine ret_any (vs := [.slice none 0 0, .agg (B8 nul32).toArray, .int .i64 z11]) rfl (.tmp rfl (.cell rfl Tryz.isAgg64 Tryz.sizeOf64 f rfl (.tmp rfl .nil))) (by simp) ?_
  exact ⟨none, [], 0, nul32, _, rfl, OwnH.nil_, i11, i11_1, fun h => absurd h h13, fun _ => rfl, rfl, hw⟩
 ·have hO : OkR (k, p) := i11_1.1 (by omega)
  have h8 : (r.take 8).length = 8 := by rw [List.length_take]; omega
  refine rk_skip (zs ?_)
  refine wl_r (o_loadag Tryz.isAgg37 Tryz.sizeOf37 rfl f3 (by rfl)) ?_
  refine wl_call rfl (C_body _ (hp.u hw) rfl (by omega)) ?_
  rintro v17 w17 ⟨A17, ⟨c17, ⟨rfl, ⟨f17, b17⟩⟩⟩⟩
  have qf17 := f17.cap
  have s17 := b17.size
  replace hw := hw.trans (b17.mono hw.size)
  replace f5 := f5.u b17
  replace f2 := f2.u b17
  replace f3 := f3.u b17
  refine za rfl (wl_nil (zs ?_))
  refine zp (o_slice_arr (t := 64) Tryz.underlying64 Tryz.sizeOf5 rfl) ?_
  refine zm rfl ?_
  refine wl_litKr2 (by rfl) rfl f2.to_Rd f17.to_Rd (by omega) rfl (by omega) (by omega) (by omega) (own_max' (by assumption)) (by rfl) ?_
  rintro A20 w20 f20 b20
  have s20 := b20.size
  replace hw := hw.trans (b20.mono hw.size)
  replace f3 := f3.u b20
  replace f2 := f2.u b20
  replace f5 := f5.u b20
  replace f17 := f17.u b20
  refine wl_call rfl (C_Sum _ f20 hr (by rfl) (by simp) (by omega)) ?_
  rintro v21 w21 ⟨rfl, b21⟩
  have s21 := b21.size
  replace hw := hw.trans (b21.mono hw.size)
  replace f17 := f17.u b21
  replace f5 := f5.u b21
  replace f2 := f2.u b21
  replace f3 := f3.u b21
  replace f20 := f20.u b21
  refine wl_allocB Tryz.underlying64 Tryz.zeroValue64 (by rfl) ?_
  rintro g9 w9 f9 b9 i9 i9_1
  have s9 := b9.size
  replace hw := hw.trans (b9.mono hw.size)
  replace f20 := f20.u b9
  replace f3 := f3.u b9
  replace f2 := f2.u b9
  replace f5 := f5.u b9
  replace f17 := f17.u b9
  refine wl_stBa Tryz.sizeOf64 rfl f9 rfl h32 (by rfl) ?_
  rintro w_1 f g e
  have s := g.size
  replace hw := hw.trans (below_of_grownBy g.g hw.size (by omega))
  replace f17 := f17.k g.g (ap_some (by omega))
  replace f5 := f5.k g.g (ap_some (by omega))
  replace f2 := f2.k g.g (ap_some (by omega))
  replace f3 := f3.k g.g (ap_some (by omega))
  clear f20
  clear f9
  refine wl_nil (rk_seq ?_)
  have hlt := f17.lt
  have hne : blk A17 ≠ some g9 := fun e => by have := f17.ap (lo' := w17.heap.size) (hi' := g9 + 1) (.inl (Nat.le_refl _)) g9 e; omega
  have hne5 : blk A17 ≠ some g5 := fun e => by have := (hlt _ e).1; omega
  refine rk_drawo (id := 6) ((blk A17)) [0, 0, 3, 0, 7, 31, 63] [0, 0, 3, 0, 7, 31, 63] 36 4 [0, 1, 3, 2, 4, 5, 6] [(.p, 0), (.p, 1), (.s, 3), (.c, 2), (.p, 4), (.l, 5), (.p, 6)] (by kernel_rfl) (by kernel_rfl) (by kernel_rfl) (by kernel_rfl) (by kernel_rfl) ?_; dsimp only [inOrder, nthOp]
  replace f17 := f17.d
  replace f := f.d
  replace f5 := f5.d
  replace hw := hw.drew
  clear f2 f3
  have hr8 := rd_pre f 8
  refine zm rfl ?_
  refine zp (o_slArrHi (8) Tryz.underlying64 Tryz.sizeOf5 rfl rfl (by omega) (by omega)) ?_
  refine wl_s (fun _ hk => (o_ldBa Tryz.isAgg64 Tryz.sizeOf64 rfl (f.k hk (f17.ap (by omega))) h32)) ?_
  refine wl_appB Tryz.u8 rfl f17 rfl rfl hr8 (by omega) (by omega) (by simp; omega) ?_ (hq := .inr (.inr rfl))
  rintro A24 c24 w24 f24 g24 b24 i24
  simp only [drew_size] at i24
  have qf24 := f24.cap
  have s24 := g24.size
  simp only [drew_size] at s24
  replace hw := hw.trans (b24.mono (by omega))
  replace f5 := f5.y g24 (by decide)
  replace f := f.y g24 (by decide)
  clear hr8
  clear f17
  refine za rfl ?_
  refine wl_stBa Tryz.sizeOf64 rfl f5 rfl h32 (by rfl) ?_
  rintro w_2 f_1 g_1 e_1
  have s_1 := g_1.size
  replace hw := hw.trans (below_of_grownBy g_1.g hw.size (by omega))
  replace f := f.k g_1.g (ap_some (by omega))
  replace f24 := f24.k g_1.g (ap_some (by omega))
  clear f5
  refine za rfl ?_
  refine wl_nild ?_
  refine ret_any (vs := [.slice A24 (bodyB (k, p) ++ List.take 8 r).length c24, .agg (B8 r).toArray, .int .i64 0]) rfl (.tmp rfl (.cell rfl Tryz.isAgg64 Tryz.sizeOf64 f_1 (by rw [B8_length, h32]) (.tmp rfl .nil))) (by simp) ?_
  exact ⟨A24, _, c24, r, 0, rfl, f24.base (by omega) (by omega), .inl rfl, ⟨fun _ => hO, fun _ => rfl⟩, fun _ => ⟨rfl, rfl⟩, fun h => absurd rfl h, h32, hw⟩
end Go.Proofs.YtnnhenafhalobaaGreat
namespace Go.Proofs.YtnnhenafhalobaaGreat
set_option maxRecDepth 100000
open Go.RowKit
def zeroS (m : Nat) : ByteArray := ⟨(List.replicate m (0 : UInt8)).toArray⟩
theorem zeroS_size (m : Nat) : (zeroS m).size = m := by
 show (List.replicate m (0 : UInt8)).toArray.size = m
 simp
theorem zeroS_cells (m : Nat) : Go.Lib.strCells (zeroS m) = B8 (List.replicate m 0) := by
 simp [Go.Lib.strCells, zeroS, B8]
section
variable {P : Program} (w : World)
theorem run_append_zs (t u ti ty e : TypeId) (i : TypeInfo) (ht : P.underlying t = some (.slice e)) (hti : P.underlying ti = some (.int .i64)) (hu : P.underlying u = some .string) (hi : P.info? e = some i) (hz : i.zero = some (.int .u8 0)) (hsize : i.size = 1) (hby : i.bytes = 1)
  (A : Option Addr) (n c m : Nat) (h0 : 0 < m) (h : n + m ≤ 4000000000) :
  (Builtin.append_ #[t, ti] ty #[.slice A n c, .int .i64 (m : Int)]).run P w = (Builtin.append_ #[t, u] ty #[.slice A n c, .string (zeroS m)]).run P w := by
 have hw : IntKind.i64.wrap (m : Int) = m := i64_in (by omega) (by omega)
 have hneg : ¬ ((m : Int) < 0) := by omega
 have hb1 : ¬ (281474976710656 < (m : Int)) := by omega
 have h63 : ¬ (9223372036854775807 < ((n : Int) + (m : Int))) := by omega
 have hz1 : (zeroS m).data.toList = List.replicate m 0 := rfl
 have hdl : List.take m (List.map (fun b : UInt8 => Value.int .u8 (b.toNat : Int)) (zeroS m).data.toList) = List.replicate m (Value.int .u8 0) := by
  rw [hz1, List.map_replicate, List.take_of_length_le (by rw [List.length_replicate]; exact Nat.le_refl _)]; rfl
 have hda : Array.map (fun b : UInt8 => Value.int .u8 (b.toNat : Int)) (zeroS m).data = Array.replicate m (Value.int .u8 0) := by
  apply Array.ext'
  rw [Array.toList_map, hz1, List.map_replicate, Array.toList_replicate]; rfl
 have hex : (Array.replicate m (Value.int .u8 0)).extract 0 m = Array.replicate m (Value.int .u8 0) := by
  apply Array.ext
  ·simp
  ·intro j h1 h2; simp
 have hzc : ∀ k, Builtin.zeroCells (Value.int .u8 0).cells k = (Array.replicate k (Value.int .u8 0)) := fun k => by
  show Builtin.zeroCells #[Value.int .u8 0] k = _
  apply Array.ext
  ·simp [Builtin.zeroCells]
  ·intro j h1 h2
   simp [Builtin.zeroCells, Nat.mod_one]
 have hm0 : m ≠ 0 := by omega
 by_cases hroom : n + m ≤ c
 ·simp [Builtin.append_, run_underlying ht, run_underlying hti, run_underlying hu, sizeOf, typeInfo, zeroValue, hi, hz, hsize, hby, asInt, asIntOf, hw, hneg, hb1, Builtin.lenOf, zeroS_size, hroom, Builtin.firstCells, hdl, hm0, hzc]
 ·have h48 := nextslicecap_le (need := n + m) (old := c) (by omega)
  have h48' : ¬ (281474976710656 < Builtin.nextslicecap (n + m) c) := by omega
  simp [Builtin.append_, run_underlying ht, run_underlying hti, run_underlying hu, sizeOf, typeInfo, zeroValue, hi, hz, hsize, hby, asInt, asIntOf, hw, hneg, hb1, h63, Builtin.lenOf, zeroS_size, hroom, Builtin.firstCells, hdl, hm0, hzc, h48', hda, hex]
end
theorem rd_upto {w : World} {A : Option Addr} {p : List UInt8} (h : Rd w A p) (k : Nat) : Rd w A (p.take k) := by
 refine ⟨by rw [B8_length, Nat.mul_one], fun hne => ?_⟩
 have hpne : B8 p ≠ [] := fun e => by
  apply hne
  have : p = [] := by cases p with | nil => rfl | cons a b => cases e
  rw [this]; rw [List.take_nil]; rfl
 obtain ⟨b, o, rfl, hc⟩ := h.2 hpne
 refine ⟨b, o, rfl, fun j u hj => hc j u ?_⟩
 unfold B8 at hj ⊢
 rw [List.getElem?_map] at hj ⊢
 rcases Nat.lt_or_ge j k with h3 | h3
 ·rwa [List.getElem?_take_of_lt h3] at hj
 ·rw [List.getElem?_eq_none (by rw [List.length_take]; omega)] at hj; cases hj
section
variable {P : Program} {fn : Func} {F : Ending → World → Prop} {N : Nat} {ks : List K} {ops : Array Oper} {tg : Tags} {l : List Oper} {fr : Fr} {w : World} {ty t ti : TypeId} {pos : String} {aft : Array Edge} {gd : Option (Nat × Bool)} {d n c lo hi : Nat} {x y : Operand} {A : Option Addr} {s : List UInt8}
theorem wl_appZs (T : U8 P t) {u : TypeId} (hti : P.underlying ti = some (.int .i64)) (hu : P.underlying u = some .string) (m : Nat) {M : Int} (hx : fr.ev x = some (.slice A n c)) (hown : OwnH w lo hi A c s) (hn : n = s.length) (hy : fr.ev y = some (.int .i64 M)) (hM : M = (m : Int)) (hm : 0 < m) (hlen : s.length + m ≤ 4000000000) (hB : lo ≤ w.heap.size)
  (h : ∀ A' c' w', OwnH w' lo w'.heap.size A' c' (s ++ List.replicate m 0) → Grew w w' 5 (blk A) → Below lo w w' → WL P fn F N ks ops tg.tail l ((d, .slice A' (s ++ List.replicate m 0).length c') :: fr) w')
  (ht : tg.loud = true := by rfl) (hg : onG ops fr gd = true := by rfl) (hd : Nat.blt d N = true := by rfl) (hq : tg.calm = false ∨ blk A = none ∨ blk A = tg.row := by exact .inl rfl) :
  WL P fn F N ks ops tg (⟨some d, .call { callee := .builtin .append, args := #[x, y], argTypes := #[t, ti] }, ty, pos, aft, gd⟩ :: l) fr w := by
 subst hn; subst hM
 obtain ⟨i, hi', hz, hs, hb⟩ := info_parts T.hi
 obtain ⟨v', w', hrun, h2, h3, _⟩ := Go.Lib.run_append_own_string (P := P) w lo t u ty 5 i T.ht hu hi' hz hs hb (.slice A s.length c) s.length (B8 s) hown.o (zeroS m) (by rw [zeroS_size]; simp only [maxLen]; omega) (by rw [zeroS_size]; omega) hB
 rw [← run_append_zs (P := P) w t u ti ty 5 i T.ht hti hu hi' hz hs hb A s.length c m hm (by omega)] at hrun
 obtain ⟨A', c', rfl⟩ := ownsRow_shape h2
 rw [blk_own] at h3
 rw [zeroS_size, zeroS_cells, ← B8_append] at h2
 have hl : (s ++ List.replicate m 0).length = s.length + m := by rw [List.length_append, List.length_replicate]
 rw [zeroS_size] at hrun
 rw [← hl] at h2 hrun
 have hlt : ∀ b, blk A = some b → lo ≤ b ∧ b < w.heap.size := RowH.lt hown
 have hO : OwnH w' lo w'.heap.size A' c' (s ++ List.replicate m 0) := ⟨h2, fun k hk => (World.ownsRow.lt h2 k (by rw [blk_own]; exact hk)).2⟩
 exact wl_v (o_builtin (xs := [x, y]) (vs := [.slice A s.length c, .int .i64 (m : Int)]) (by simp [Fr.evs, hx, hy]) (by simp [builtin, hrun]) (by simp)) (h A' c' w' hO ⟨h3, RowH.ty hown⟩ ((Below.refl lo w).grown h3 hB (fun b hb => (hlt b hb).1))) ht hg hd
  (hq.imp id fun e => e.elim (fun e => grown_wide (e ▸ h3) _) (fun e => e ▸ h3))
theorem wl_slBB (T : U8 P t) {p : List UInt8} {z : Operand} {len cap : Nat} {kl kh : IntKind} {L H : Int} (lo hi : Nat) (hx : fr.ev x = some (.slice A len cap)) (hy : fr.ev y = some (.int kl L)) (hz : fr.ev z = some (.int kh H)) (hr : Rd w A p) (hlen : len = p.length) (hl : L = (lo : Int)) (hh : H = (hi : Int)) (h1 : lo ≤ hi) (h2 : hi ≤ p.length) (h3 : p.length ≤ cap)
  (hk : ∀ A' c', Rd w A' ((p.drop lo).take (hi - lo)) → hi - lo ≤ c' → c' ≤ cap → WL P fn F N ks ops tg.tail l ((d, .slice A' (hi - lo) c') :: fr) w) (hg : onG ops fr gd = true := by rfl) (hd : Nat.blt d N = true := by rfl) :
  WL P fn F N ks ops tg (⟨some d, .slice t x (some y) (some z) none, ty, pos, aft, gd⟩ :: l) fr w := by
 obtain ⟨i, hi', hz', hs, hb⟩ := info_parts T.hi
 refine wl_p (fun _ => o_slice (sz := 1) (lo := lo) (hi := hi) T.ht (fun w => by simp [sizeOf, typeInfo, hi', hs]) hx hy hz hl hh h1 (by omega)) (hk _ _ ?_ (by omega) (by omega)) hg hd
 have h4 := (hr.drop (k := lo) (cap := cap) (by omega) h3)
 have h5 : cutA A cap 1 lo = if cap = lo then A else A.map (·.add lo) := by unfold cutA; rw [Nat.mul_one]
 rw [h5]
 exact rd_upto h4 _
theorem wl_slBl (T : U8 P t) {p : List UInt8} {len cap : Nat} {kl : IntKind} {L : Int} (lo : Nat) (hx : fr.ev x = some (.slice A len cap)) (hy : fr.ev y = some (.int kl L)) (hr : Rd w A p) (hlen : len = p.length) (hl : L = (lo : Int)) (h1 : lo ≤ p.length) (h3 : p.length ≤ cap)
  (hk : ∀ A' c', Rd w A' (p.drop lo) → p.length - lo ≤ c' → c' ≤ cap → WL P fn F N ks ops tg.tail l ((d, .slice A' (p.length - lo) c') :: fr) w) (hg : onG ops fr gd = true := by rfl) (hd : Nat.blt d N = true := by rfl) :
  WL P fn F N ks ops tg (⟨some d, .slice t x (some y) none none, ty, pos, aft, gd⟩ :: l) fr w := by
 subst hlen
 obtain ⟨i, hi', hz', hs, hb⟩ := info_parts T.hi
 refine wl_p (fun _ => o_slice_lo (sz := 1) (lo := lo) T.ht (fun w => by simp [sizeOf, typeInfo, hi', hs]) hx hy hl h1) (hk _ _ ?_ (by omega) (by omega)) hg hd
 have h4 := (hr.drop (k := lo) (cap := cap) (by omega) h3)
 have h5 : cutA A cap 1 lo = if cap = lo then A else A.map (·.add lo) := by unfold cutA; rw [Nat.mul_one]
 rw [h5]
 exact h4
theorem wl_slBh (T : U8 P t) {p : List UInt8} {z : Operand} {len cap : Nat} {kh : IntKind} {H : Int} (hi : Nat) (hx : fr.ev x = some (.slice A len cap)) (hz : fr.ev z = some (.int kh H)) (hr : Rd w A p) (hlen : len = p.length) (hh : H = (hi : Int)) (h2 : hi ≤ p.length) (h3 : p.length ≤ cap)
  (hk : Rd w A (p.take hi) → WL P fn F N ks ops tg.tail l ((d, .slice A hi cap) :: fr) w) (hg : onG ops fr gd = true := by rfl) (hd : Nat.blt d N = true := by rfl) :
  WL P fn F N ks ops tg (⟨some d, .slice t x none (some z) none, ty, pos, aft, gd⟩ :: l) fr w := by
 obtain ⟨i, hi', hz', hs, hb⟩ := info_parts T.hi
 exact wl_p (fun _ => o_slice_hi (sz := 1) (hi := hi) T.ht (fun w => by simp [sizeOf, typeInfo, hi', hs]) hx hz hh (by omega)) (hk (rd_upto hr _)) hg hd
end
end Go.Proofs.YtnnhenafhalobaaGreat
namespace Go.Proofs.YtnnhenafhalobaaGreat
set_option maxRecDepth 100000
open Go.RowKit
def startR (b : By) : Nat × Nat × Nat × Nat :=
 if (rWord 1 (b.take 10, 0)).2.2 = 0 ∧ (rWord 1 (b.take 10, 0)).1 = 0 then (0, 0, 0, 4)
 else if (rNumber (rWord 1 (b.take 10, 0)).2).2.2 ≠ 0 then (0, 0, 0, (rNumber (rWord 1 (b.take 10, 0)).2).2.2)
 else if 8192 < (rNumber (rWord 1 (b.take 10, 0)).2).1 then (0, 0, 0, 4)
 else ((rWord 1 (b.take 10, 0)).1, (b.take 10).length - (rNumber (rWord 1 (b.take 10, 0)).2).2.1.length, (rNumber (rWord 1 (b.take 10, 0)).2).1, 0)
theorem P_start {A : Option Addr} {b : By} {n c k f z e : Nat} (w : World) (hb : Rd w A b) (hn : n = b.length) (hc : b.length ≤ c) (hs : startR b = (k, f, z, e)) :
  CallsR Tryz.prog 124 [.slice A n c] w fun v w' => v = .tuple #[.int .u8 (k : Int), .int .i64 (f : Int), .int .i64 (z : Int), .int .i64 (e : Int)] ∧ Below w.heap.size w w' := by
 subst hn
 obtain ⟨m, hm⟩ : ∃ m : Nat, min (b.length : Int) 10 = m := ⟨min b.length 10, by omega⟩
 have hm2 : b.take m = b.take 10 := by
  rw [List.take_eq_take_iff]; omega
 have hml : (b.take m).length = m := by rw [List.length_take]; omega
 refine callsR Tryz.func124 rfl rfl (by kernel_rfl) rfl ?_
 have hw := Below.refl w.heap.size w
 refine zs (za rfl (za rfl (za rfl (za rfl (wl_nil (zs (zm rfl (zm rfl ?_))))))))
 refine zp (o_len (t := 35) Tryz.underlying35 rfl) ?_
 refine zp (o_min rfl rfl) ?_
 refine wl_slBh Tryz.u8 (m) rfl rfl hb rfl hm (by omega) (by omega) ?_
 rintro f12
 refine za rfl (wl_nil (zs (zm rfl ?_)))
 refine wl_call rfl (C_Read (c) (by omega) _ f12 (by omega)) ?_
 rintro v14 w14 ⟨g14, ⟨rfl, ⟨i14, ⟨i14_1, ⟨i14_2, b14⟩⟩⟩⟩⟩
 have s14 := b14.size
 replace hw := hw.trans (b14.mono hw.size)
 refine za rfl (wl_nil (zs (zm rfl ?_)))
 rw [hm]
 have hc16 := C_RWord 1 w14 i14_2
 rw [List.drop_zero] at hc16
 obtain ⟨q1, hq1⟩ : ∃ q1, rWord 1 (b.take 10, 0) = q1 := ⟨_, rfl⟩
 have hk1 : q1.1 ≤ 255 := by
  rw [← hq1]
  have h1 := leVal_lt (rTake (clampN 1) (b.take 10, 0)).1
  have h2 : (rTake (clampN 1) (b.take 10, 0)).1.length ≤ 1 := by
   unfold rTake; (repeat' split) <;> simp [clampN, List.length_take] <;> omega
  have h3 := Nat.pow_le_pow_right (show 0 < 256 by omega) h2
  show leVal _ ≤ 255
  omega
 obtain ⟨k1, l1, e1⟩ := q1
 simp only at hk1
 rw [hm2, hq1] at hc16
 dsimp only at hc16
 have hwr : IntKind.u8.wrap (k1 : Int) = (k1 : Int) := by rw [IntKind.wrap_u8']; omega
 refine wl_call rfl hc16 ?_
 rintro _ w16 ⟨rfl, g16, p1, hR1, hl1⟩
 have hsz16 := g16.size
 replace hw := hw.trans (below_of_grownBy g16 hw.size (by omega))
 clear i14_2 b14 hc16
 refine zp (o_convi (src := 52) (dst := 5) Tryz.underlying52 Tryz.underlying5 rfl) ?_
 refine za rfl (wl_nil (rk_seq (zs (zm rfl ?_))))
 rw [hwr]
 refine wl_call rfl (C_RErr w16 hR1) ?_
 rintro _ _ ⟨rfl, rfl⟩
 have hc26 := C_RNumber w16 hR1
 rw [← hl1] at hc26
 obtain ⟨q2, hq2⟩ : ∃ q2, rNumber (l1, e1) = q2 := ⟨_, rfl⟩
 rw [hq2] at hc26
 obtain ⟨n2, l2, e2⟩ := q2
 dsimp only at hc26
 unfold startR at hs
 rw [hq1] at hs
 dsimp only at hs
 rw [hq2] at hs
 dsimp only at hs
 by_cases h0 : (e1 : Int) = 0
 ·have h0' : e1 = 0 := by omega
  refine zp (o_eq rfl rfl) ?_
  refine zm rfl ?_
  refine wl_know 21 true rfl (decide_eq_true (by omega)) ?_
  refine zm rfl ?_
  refine zp (o_eq rfl rfl) ?_
  refine zp (o_pick_t rfl rfl) ?_
  refine wl_nil ?_
  rw [decide_eq_true h0]
  refine rk_if rfl (fun h24 => ?_) (fun h24 => ?_)
  ·refine zs ?_
   refine za rfl (za rfl (za rfl (za rfl (wl_nil ?_))))
   refine ret_any (vs := [.int .u8 0, .int .i64 0, .int .i64 0, .int .i64 4]) rfl (.tmp rfl (.tmp rfl (.tmp rfl (.tmp rfl .nil)))) (by simp) ?_
   have hk0 : k1 = 0 := by omega
   rw [if_pos ⟨h0', hk0⟩] at hs
   cases hs
   exact ⟨rfl, hw⟩
  ·rw [if_neg (fun h => by omega)] at hs
   refine rk_skip (zs (zm rfl ?_))
   refine wl_call rfl hc26 ?_
   rintro _ w26 ⟨rfl, g26, p2, hR2, hl2⟩
   replace hw := hw.trans (below_of_grownBy g26 hw.size (by omega))
   refine za rfl (wl_nil (rk_seq (zs (zm rfl ?_))))
   refine wl_call rfl (C_RErr w26 hR2) ?_
   rintro _ _ ⟨rfl, rfl⟩
   refine zp (o_ne rfl rfl) ?_
   refine wl_nil ?_
   refine rk_if rfl (fun h29 => ?_) (fun h29 => ?_)
   ·refine zs ?_
    refine zm rfl ?_
    refine wl_call rfl (C_RErr w26 hR2) ?_
    rintro _ _ ⟨rfl, rfl⟩
    refine za rfl (za rfl (za rfl (za rfl (wl_nil ?_))))
    refine ret_any (vs := [.int .u8 0, .int .i64 0, .int .i64 0, .int .i64 (e2 : Int)]) rfl (.tmp rfl (.tmp rfl (.tmp rfl (.tmp rfl .nil)))) (by simp) ?_
    rw [if_pos (show e2 ≠ 0 by omega)] at hs
    cases hs
    exact ⟨rfl, hw⟩
   ·rw [if_neg (show ¬ e2 ≠ 0 by omega)] at hs
    refine rk_skip (rk_seq (zs (zm rfl ?_)))
    refine zp (o_gt rfl rfl) ?_
    refine wl_nil ?_
    refine rk_if rfl (fun h33 => ?_) (fun h33 => ?_)
    ·refine zs ?_
     refine za rfl (za rfl (za rfl (za rfl (wl_nil ?_))))
     refine ret_any (vs := [.int .u8 0, .int .i64 0, .int .i64 0, .int .i64 4]) rfl (.tmp rfl (.tmp rfl (.tmp rfl (.tmp rfl .nil)))) (by simp) ?_
     rw [if_pos (by omega)] at hs
     cases hs
     exact ⟨rfl, hw⟩
    ·rw [if_neg (by omega)] at hs
     refine rk_skip (zs (zm rfl (zm rfl ?_)))
     refine zp (o_len (t := 35) Tryz.underlying35 rfl) ?_
     refine zm rfl ?_
     refine wl_call rfl (C_RLeft w26 hR2) ?_
     rintro _ _ ⟨rfl, rfl⟩
     replace hw := hw.drew
     have hdl : l2.length ≤ m := by rw [hl2, List.length_drop, ← hm2, hml]; omega
     have hmt : (b.take 10).length = m := by rw [← hm2, hml]
     rw [← hl2]
     refine zp (o_sub rfl rfl (by omega) (by omega)) ?_
     refine zm rfl ?_
     refine zp (o_convi64 (src := 52) (dst := 3) Tryz.underlying52 Tryz.underlying3 rfl (by omega) (by omega)) ?_
     refine za rfl (za rfl (za rfl (za rfl (wl_nil ?_))))
     refine ret_any (vs := [.int .u8 (k1 : Int), .int .i64 ((m : Int) - l2.length), .int .i64 (n2 : Int), .int .i64 0]) rfl (.tmp rfl (.tmp rfl (.tmp rfl (.tmp rfl .nil)))) (by simp) ?_
     cases hs
     rw [hmt, Int.ofNat_sub hdl]
     exact ⟨rfl, hw⟩
 ·rw [if_neg (fun h => by omega)] at hs
  refine zp (o_eq rfl rfl) ?_
  refine zm rfl ?_
  refine wl_know 21 false rfl (decide_eq_false (by omega)) ?_
  refine wl_off (wl_off ?_)
  refine zp (o_pick_f rfl rfl) ?_
  refine wl_nil ?_
  refine rk_false rfl ?_
  refine rk_skip (zs (zm rfl ?_))
  rw [decide_eq_false h0]
  refine wl_call rfl hc26 ?_
  rintro _ w26 ⟨rfl, g26, p2, hR2, hl2⟩
  replace hw := hw.trans (below_of_grownBy g26 hw.size (by omega))
  refine za rfl (wl_nil (rk_seq (zs (zm rfl ?_))))
  refine wl_call rfl (C_RErr w26 hR2) ?_
  rintro _ _ ⟨rfl, rfl⟩
  refine zp (o_ne rfl rfl) ?_
  refine wl_nil ?_
  refine rk_if rfl (fun h29 => ?_) (fun h29 => ?_)
  ·refine zs ?_
   refine zm rfl ?_
   refine wl_call rfl (C_RErr w26 hR2) ?_
   rintro _ _ ⟨rfl, rfl⟩
   refine za rfl (za rfl (za rfl (za rfl (wl_nil ?_))))
   refine ret_any (vs := [.int .u8 0, .int .i64 0, .int .i64 0, .int .i64 (e2 : Int)]) rfl (.tmp rfl (.tmp rfl (.tmp rfl (.tmp rfl .nil)))) (by simp) ?_
   rw [if_pos (show e2 ≠ 0 by omega)] at hs
   cases hs
   exact ⟨rfl, hw⟩
  ·exfalso
   rw [rNumber_err (by omega)] at hq2
   cases hq2
   omega
structure StartR (b : By) (k f z e : Nat) : Prop where
 eq : startR b = (k, f, z, e)
theorem C_startR {A : Option Addr} {b : By} {n c k f z e : Nat} (w : World) (hs : StartR b k f z e) (hb : Rd w A b) (hn : n = b.length) (hc : b.length ≤ c) :
  CallsR Tryz.prog 124 [.slice A n c] w fun v w' => v = .tuple #[.int .u8 (k : Int), .int .i64 (f : Int), .int .i64 (z : Int), .int .i64 (e : Int)] ∧ Below w.heap.size w w' := P_start w hb hn hc hs.eq
end Go.Proofs.YtnnhenafhalobaaGreat
namespace Go.Proofs.YtnnhenafhalobaaGreat
set_option maxRecDepth 100000
open Go.RowKit
section
variable {P : Program} {N : Nat} {fr : Fr} {w : World} {ty t t' : TypeId} {x y : Operand}
theorem run_equal_slice_nil {e : TypeId} (hu : P.underlying t = some (.slice e)) (A : Option Addr) (n c : Nat) : (Op.equal t (.slice A n c) (.slice none 0 0)).run P w = .ok A.isNone w := by
 have h : ∀ d : Nat, (Op.equalIn (d + 1) t (.slice A n c) (.slice none 0 0)).run P w = .ok A.isNone w := fun d => by
  cases A <;> simp [Op.equalIn, run_underlying hu]
 exact h 9999
theorem o_sleqN {e : TypeId} {A : Option Addr} {n c : Nat} (hu : P.underlying t = some (.slice e)) (hx : fr.ev x = some (.slice A n c)) (hy : fr.ev y = some (.slice none 0 0)) : OpV P N fr w (.binOp .eql t x y t') ty (.bool A.isNone) w :=
 o_bin hx hy (fun _ _ => by simp [go_sem]) (by simp only [binOp]; simp [run_equal_slice_nil hu])
end
set_option maxRecDepth 100000 in
theorem C_bClone {A : Option Addr} {p : List UInt8} {n c : Nat} (w : World) (hp : Rd w A p) (hn : n = p.length) (hl : p.length ≤ 4000000000) :
  CallsR Tryz.prog 125 [.slice A n c] w fun v w' => ∃ A' c', v = .slice A' p.length c' ∧ OwnH w' w.heap.size w'.heap.size A' c' p ∧ Below w.heap.size w w' := by
 subst hn
 rcases A with _ | ad
 ·obtain rfl : p = [] := by
   rcases p with _ | ⟨a, p⟩
   ·rfl
   ·obtain ⟨_, _, e, _⟩ := hp.2 (by simp [B8]); cases e
  refine callsR Tryz.func125 rfl rfl (by kernel_rfl) rfl ?_
  have hw := Below.refl w.heap.size w
  refine zs (za rfl (wl_nil (rk_seq (zs (zm rfl ?_)))))
  refine zp (o_sleqN Tryz.underlying35 rfl rfl) ?_
  refine wl_nil ?_
  refine rk_true rfl ?_
  refine zs (za rfl (wl_nil ?_))
  refine ret1 rfl rfl ?_
  exact ⟨none, 0, rfl, OwnH.nil_, hw⟩
 ·refine callsR Tryz.func125 rfl rfl (by kernel_rfl) rfl ?_
  have hw := Below.refl w.heap.size w
  refine zs (za rfl (wl_nil (rk_seq (zs (zm rfl ?_)))))
  refine zp (o_sleqN Tryz.underlying35 rfl rfl) ?_
  refine wl_nil ?_
  refine rk_false rfl ?_
  refine rk_skip (zs ?_)
  refine wl_litB [] Tryz.u8 Tryz.sizeOf5 Tryz.zeroValue5 (by rfl) rfl rfl (by rfl) (by rfl) (by rfl) ?_
  rintro A5 w5 f5 b5
  have qf5 := f5.cap
  have s5 := b5.size
  replace hw := hw.trans (b5.mono hw.size)
  refine zm rfl ?_
  refine wl_appB Tryz.u8 rfl f5 (by rfl) rfl (hp.u hw) rfl (by omega) hw.size ?_
  rintro A7 c7 w7 f7 g7 b7 i7
  have qf7 := f7.cap
  have s7 := g7.size
  replace hw := hw.trans (b7.mono (by omega))
  clear f5
  refine za rfl (wl_nil ?_)
  rw [List.nil_append] at f7 ⊢
  refine ret1 rfl rfl ?_
  exact ⟨_, _, rfl, f7, hw⟩
end Go.Proofs.YtnnhenafhalobaaGreat
namespace Go.Proofs.YtnnhenafhalobaaGreat
set_option maxRecDepth 100000
open Go.RowKit
def readR (d b : By) : Rc × Nat × By × Nat :=
 match startR b with
 | (k, f, z, e) =>
  if e ≠ 0 then ((0, []), 0, nul32, e)
  else if b.length - f < z + 8 then ((0, []), 0, nul32, 5)
  else if (nextB d (UInt8.ofNat k, (b.drop f).take z)).take 8 = (b.drop (f + z)).take 8 then ((UInt8.ofNat k, (b.drop f).take z), f + z + 8, nextB d (UInt8.ofNat k, (b.drop f).take z), 0)
  else ((0, []), 0, nul32, 4)
theorem startR_le {b : By} {k o z x : Nat} (h : startR b = (k, o, z, x)) : k ≤ 255 ∧ o ≤ b.length ∧ o ≤ 10 ∧ z ≤ 8192 := by
 unfold startR at h
 have h1 := leVal_lt (rTake (clampN 1) (b.take 10, 0)).1
 have h2 : (rTake (clampN 1) (b.take 10, 0)).1.length ≤ 1 := by
  unfold rTake; (repeat' split) <;> simp [clampN, List.length_take] <;> omega
 have h3 := Nat.pow_le_pow_right (show 0 < 256 by omega) h2
 have h4 : (rWord 1 (b.take 10, 0)).1 ≤ 255 := by
  show leVal _ ≤ 255
  omega
 have h5 : (b.take 10).length = min 10 b.length := List.length_take
 split at h
 ·cases h; omega
 split at h
 ·cases h; omega
 split at h
 ·cases h; omega
 ·cases h; omega
theorem C_RecRead {A : Option Addr} {d b : By} {n c : Nat} (w : World) (hb : Rd w A b) (hn : n = b.length) (hc : b.length ≤ c) (hd : d.length = 32) (hl : b.length ≤ 400000) :
  CallsR Tryz.prog 107 [.agg (B8 d).toArray, .slice A n c] w fun v w' => ∃ (k : UInt8) (p : By) (A' : Option Addr) (c' z : Nat) (x : By) (e : Nat), v = .tuple #[.agg #[.int .u8 (k.toNat : Int), .slice A' p.length c'], .int .i64 (z : Int), .agg (B8 x).toArray, .int .i64 (e : Int)] ∧ OwnH w' w.heap.size w'.heap.size A' c' p ∧ readR d b = ((k, p), z, x, e) ∧ x.length = 32 ∧ Below w.heap.size w w' := by
 subst hn
 obtain ⟨⟨kd, at0, sz, er⟩, hs⟩ : ∃ s, startR b = s := ⟨_, rfl⟩
 obtain ⟨q1, q2, q3, q4⟩ := startR_le hs
 obtain ⟨k8, rfl⟩ : ∃ k8 : UInt8, kd = k8.toNat := ⟨UInt8.ofNat kd, by rw [UInt8.toNat_ofNat_of_lt' (by show kd < 256; omega)]⟩
 obtain ⟨p, hp⟩ : ∃ p, (b.drop at0).take sz = p := ⟨_, rfl⟩
 obtain ⟨y, hy⟩ : ∃ y, (b.drop (at0 + sz)).take 8 = y := ⟨_, rfl⟩
 obtain ⟨r, hr⟩ : ∃ r, nextB d (k8, p) = r := ⟨_, rfl⟩
 have h32 : r.length = 32 := by rw [← hr, nextB_len]
 have h8 : (r.take 8).length = 8 := by rw [List.length_take]; omega
 unfold readR
 rw [hs]
 dsimp only
 rw [UInt8.ofNat_toNat, hp, hy, hr]
 have hS : StartR b k8.toNat at0 sz er := ⟨hs⟩
 refine callsR Tryz.func107 rfl rfl (by kernel_rfl) rfl ?_
 have hw := Below.refl w.heap.size w
 refine zs ?_
 refine wl_boxg _ rfl (by rfl) ?_
 rintro g2 w2 f2 b2 i2 i2_1
 have s2 := b2.size
 replace hw := hw.trans (b2.mono hw.size)
 refine wl_allocg [_, _] Tryz.zeroValue37 (by rfl) ?_
 rintro g4 w4 f4 b4 i4 i4_1
 have s4 := b4.size
 replace hw := hw.trans (b4.mono hw.size)
 replace f2 := f2.u b4
 refine za rfl ?_
 refine wl_allocB Tryz.underlying64 Tryz.zeroValue64 (by rfl) ?_
 rintro g6 w6 f6 b6 i6 i6_1
 have s6 := b6.size
 replace hw := hw.trans (b6.mono hw.size)
 replace f2 := f2.u b6
 replace f4 := f4.u b6
 refine za rfl (wl_nil (zs (zm rfl ?_)))
 refine wl_call rfl (C_startR _ hS (hb.below hw) rfl hc) ?_
 rintro _ w17 ⟨rfl, b17⟩
 have sb17 := b17.size
 replace hw := hw.trans (b17.mono hw.size)
 replace f4 := f4.u b17
 replace f2 := f2.u b17
 replace f6 := f6.u b17
 refine zm rfl ?_
 refine zp (o_ext40 rfl) ?_
 refine zp (o_ext41 rfl) ?_
 refine zp (o_ext42 rfl) ?_
 refine zp (o_ext43 rfl) ?_
 refine za rfl (za rfl (za rfl (za rfl (wl_nil (rk_seq (zs (zm rfl ?_)))))))
 refine zp (o_ne rfl rfl) ?_
 refine wl_nil ?_
 refine rk_if rfl (fun h23 => ?_) (fun h23 => ?_)
 ·refine zs ?_
  refine zp (o_buildg [_, _] Tryz.underlying37 Tryz.zeroValue37 (by rfl) (by rfl) rfl (by rfl) (by rfl) (fun _ => by kernel_rfl)) ?_
  refine zp (o_buildga [_, _, _, _, _, _, _, _, _, _, _, _, _, _, _, _, _, _, _, _, _, _, _, _, _, _, _, _, _, _, _, _] Tryz.underlying64 Tryz.sizeOf5 Tryz.zeroValue64 (by rfl) (by rfl) rfl (by rfl) (by rfl) (fun _ => by kernel_rfl)) ?_
  refine zm rfl ?_
  refine wl_storega Tryz.sizeOf37 rfl rfl (by rfl) (by decide) f4 (by rfl) ?_
  rintro w_1 f g e
  have s := g.size
  replace hw := hw.trans (below_of_grownBy g.g hw.size (by omega))
  replace f6 := f6.k g.g (ap_some (by omega))
  replace f2 := f2.k g.g (ap_some (by omega))
  clear f4
  refine za rfl ?_
  refine wl_storega Tryz.sizeOf64 rfl rfl (by rfl) (by decide) f6 (by rfl) ?_
  rintro w_2 f_1 g_1 e_1
  have s_1 := g_1.size
  replace hw := hw.trans (below_of_grownBy g_1.g hw.size (by omega))
  replace f2 := f2.k g_1.g (ap_some (by omega))
  replace f := f.k g_1.g (ap_some (by omega))
  clear f6
  refine za rfl (wl_nil ?_)
  refine ret_any (vs := [.agg #[.int .u8 0, .slice none 0 0], .int .i64 0, .agg (B8 nul32).toArray, .int .i64 (er : Int)]) rfl (.cell rfl Tryz.isAgg37 Tryz.sizeOf37 f rfl (.tmp rfl (.cell rfl Tryz.isAgg64 Tryz.sizeOf64 f_1 rfl (.tmp rfl .nil)))) (by simp) ?_
  exact ⟨0, [], none, 0, 0, nul32, er, rfl, OwnH.nil_, by rw [if_pos (by omega)], rfl, hw⟩
 rw [if_neg (show ¬ er ≠ 0 by omega)]
 refine rk_skip (rk_seq (zs (zm rfl ?_)))
 refine zp (o_len (t := 35) Tryz.underlying35 rfl) ?_
 refine zm rfl ?_
 refine zp (o_sub rfl rfl (by omega) (by omega)) ?_
 refine zm rfl ?_
 refine zp (o_add rfl rfl (by omega) (by omega)) ?_
 refine zp (o_lt rfl rfl) ?_
 refine wl_nil ?_
 refine rk_if rfl (fun h33 => ?_) (fun h33 => ?_)
 ·refine zs ?_
  refine zp (o_buildg [_, _] Tryz.underlying37 Tryz.zeroValue37 (by rfl) (by rfl) rfl (by rfl) (by rfl) (fun _ => by kernel_rfl)) ?_
  refine zp (o_buildga [_, _, _, _, _, _, _, _, _, _, _, _, _, _, _, _, _, _, _, _, _, _, _, _, _, _, _, _, _, _, _, _] Tryz.underlying64 Tryz.sizeOf5 Tryz.zeroValue64 (by rfl) (by rfl) rfl (by rfl) (by rfl) (fun _ => by kernel_rfl)) ?_
  refine wl_storega Tryz.sizeOf37 rfl rfl (by rfl) (by decide) f4 (by rfl) ?_
  rintro w_1 f g e
  have s := g.size
  replace hw := hw.trans (below_of_grownBy g.g hw.size (by omega))
  replace f6 := f6.k g.g (ap_some (by omega))
  replace f2 := f2.k g.g (ap_some (by omega))
  clear f4
  refine za rfl ?_
  refine wl_storega Tryz.sizeOf64 rfl rfl (by rfl) (by decide) f6 (by rfl) ?_
  rintro w_2 f_1 g_1 e_1
  have s_1 := g_1.size
  replace hw := hw.trans (below_of_grownBy g_1.g hw.size (by omega))
  replace f2 := f2.k g_1.g (ap_some (by omega))
  replace f := f.k g_1.g (ap_some (by omega))
  clear f6
  refine za rfl (wl_nil ?_)
  refine ret_any (vs := [.agg #[.int .u8 0, .slice none 0 0], .int .i64 0, .agg (B8 nul32).toArray, .int .i64 5]) rfl (.cell rfl Tryz.isAgg37 Tryz.sizeOf37 f rfl (.tmp rfl (.cell rfl Tryz.isAgg64 Tryz.sizeOf64 f_1 rfl (.tmp rfl .nil)))) (by simp) ?_
  exact ⟨0, [], none, 0, 0, nul32, 5, rfl, OwnH.nil_, by rw [if_pos (by omega)], rfl, hw⟩
 rw [if_neg (show ¬ b.length - at0 < sz + 8 by omega)]
 refine rk_skip (zs (zm rfl (zm rfl ?_)))
 refine zp (o_add rfl rfl (by omega) (by omega)) ?_
 refine za rfl (wl_nil (zs (zm rfl (zm rfl (zm rfl (zm rfl (zm rfl ?_)))))))
 obtain ⟨t, ht⟩ : ∃ t, at0 + sz = t := ⟨_, rfl⟩
 rw [show ((at0 : Int) + (sz : Int)) = (t : Int) by omega]
 have hpl : p.length = sz := by rw [← hp, List.length_take, List.length_drop]; omega
 have hyl : y.length = 8 := by rw [← hy, List.length_take, List.length_drop]; omega
 have hR : Rd w (cutA A t 1 at0) p := by
  have h1 := (hb.take (k := t) (by omega)).cut (c := t) (k := at0) (by rw [List.length_take]; omega) (by rw [List.length_take]; omega)
  rwa [List.drop_take, show t - at0 = sz by omega, hp] at h1
 refine zp (o_slice3B at0 t t Tryz.underlying35 Tryz.sizeOf5 rfl rfl rfl rfl rfl rfl rfl (by omega) (Nat.le_refl _) (by omega)) ?_
 refine wl_call rfl (C_bClone _ (hR.u hw) (by omega) (by omega)) ?_
 rintro v45 w45 ⟨A45, ⟨c45, ⟨rfl, ⟨f45, b45⟩⟩⟩⟩
 have qf45 := f45.cap
 have s45 := b45.size
 replace hw := hw.trans (b45.mono hw.size)
 replace f6 := f6.u b45
 replace f2 := f2.u b45
 replace f4 := f4.u b45
 refine zp (o_buildg [_, _] Tryz.underlying37 Tryz.zeroValue37 (by rfl) (by rfl) rfl (by rfl) (by rfl) (fun _ => by kernel_rfl)) ?_
 refine wl_allocg [_, _] Tryz.zeroValue37 (by rfl) ?_
 rintro g13 w13 f13 b13 i13 i13_1
 have s13 := b13.size
 replace hw := hw.trans (b13.mono hw.size)
 replace f4 := f4.u b13
 replace f2 := f2.u b13
 replace f6 := f6.u b13
 replace f45 := f45.u b13
 refine wl_storega Tryz.sizeOf37 rfl rfl (by rfl) (oneCell_of (by rfl)) f13 (by rfl) ?_
 rintro w_1 f g e
 have s := g.size
 replace hw := hw.trans (below_of_grownBy g.g hw.size (by omega))
 replace f45 := f45.k g.g (ap_some (by omega))
 replace f6 := f6.k g.g (ap_some (by omega))
 replace f2 := f2.k g.g (ap_some (by omega))
 replace f4 := f4.k g.g (ap_some (by omega))
 clear f13
 refine wl_nil (zs ?_)
 refine wl_r (o_ldBa Tryz.isAgg64 Tryz.sizeOf64 rfl f2 hd) ?_
 refine wl_r (o_loadag Tryz.isAgg37 Tryz.sizeOf37 rfl f (by rfl)) ?_
 refine wl_call rfl (C_Next _ f45.to_Rd rfl (by omega) hd hr) ?_
 rintro v49 w49 ⟨rfl, b49⟩
 have s49 := b49.size
 replace hw := hw.trans (b49.mono hw.size)
 replace f4 := f4.u b49
 replace f2 := f2.u b49
 replace f6 := f6.u b49
 replace f45 := f45.u b49
 replace f := f.u b49
 refine wl_allocB Tryz.underlying64 Tryz.zeroValue64 (by rfl) ?_
 rintro g14 w14 f14 b14 i14 i14_1
 have s14 := b14.size
 replace hw := hw.trans (b14.mono hw.size)
 replace f := f.u b14
 replace f45 := f45.u b14
 replace f6 := f6.u b14
 replace f2 := f2.u b14
 replace f4 := f4.u b14
 refine wl_stBa Tryz.sizeOf64 rfl f14 rfl h32 (by rfl) ?_
 rintro w_2 f_1 g_1 e_1
 have s_1 := g_1.size
 replace hw := hw.trans (below_of_grownBy g_1.g hw.size (by omega))
 replace f4 := f4.k g_1.g (ap_some (by omega))
 replace f2 := f2.k g_1.g (ap_some (by omega))
 replace f6 := f6.k g_1.g (ap_some (by omega))
 replace f45 := f45.k g_1.g (ap_some (by omega))
 replace f := f.k g_1.g (ap_some (by omega))
 clear f14
 refine wl_nil (rk_seq (rk_seq ?_))
 refine rk_draw (id := 9) (none) [0, 0, 0, 0, 8, 22, 33, 64] [0, 0, 0, 0, 8, 30, 63, 127] 64 0 [(.p, 0), (.p, 1), (.p, 2), (.p, 3), (.p, 4), (.p, 5), (.l, 6), (.p, 7)] (by kernel_rfl) (by kernel_rfl) (by kernel_rfl) (by kernel_rfl) (by kernel_rfl) ?_
 replace hw := hw.drew
 replace f := f.d
 replace f45 := f45.d
 replace f6 := f6.d
 replace f2 := f2.d
 replace f4 := f4.d
 replace f_1 := f_1.d
 refine zp (o_slArrHi (8) Tryz.underlying64 Tryz.sizeOf5 rfl rfl (by omega) (by omega)) ?_
 refine zm rfl (zm rfl (zm rfl ?_))
 refine zp (o_add rfl rfl (by omega) (by omega)) ?_
 refine wl_slBB Tryz.u8 (t) (t + 8) rfl rfl rfl (hb.u hw) rfl rfl (by omega) (by omega) (by omega) (by omega) ?_
 rintro A55 c55 f55 i55 i55_1
 rw [show t + 8 - t = 8 by omega] at f55 i55 ⊢
 rw [ht] at hy
 rw [hy] at f55
 have hr8 := rd_pre f_1 8
 refine wl_call rfl (C_bEqual _ hr8 f55 (by omega) (by omega)) ?_
 rintro v56 w56 ⟨rfl, b56⟩
 simp only [drew_size] at b56
 have s56 := b56.size
 simp only [drew_size] at s56
 replace hw := hw.trans (b56.mono hw.size)
 replace hr8 := hr8.u b56
 replace f55 := f55.u b56
 replace f_1 := f_1.u b56
 replace f4 := f4.u b56
 replace f2 := f2.u b56
 replace f6 := f6.u b56
 replace f45 := f45.u b56
 replace f := f.u b56
 refine zp (o_not rfl) ?_
 refine wl_nild ?_
 by_cases hq : r.take 8 = y
 ·rw [decide_eq_true hq, if_pos hq]
  refine rk_false rfl ?_
  refine rk_skip (rk_seq ?_)
  refine rk_draw (id := 11) (some g4) [0, 0, 2, 0, 1, 23, 63, 127] [0, 0, 2, 0, 1, 23, 63, 127] 80 16 [(.r, 0), (.p, 1), (.p, 2), (.s, 3), (.c, 4), (.p, 5), (.l, 6), (.p, 7)] (by kernel_rfl) (by kernel_rfl) (by kernel_rfl) (by kernel_rfl) (by kernel_rfl) ?_
  replace hw := hw.drew
  replace f := f.d
  replace f45 := f45.d
  replace f6 := f6.d
  replace f2 := f2.d
  replace f4 := f4.d
  replace f_1 := f_1.d
  replace f55 := f55.d
  replace hr8 := hr8.d
  refine wl_r (o_loadag Tryz.isAgg37 Tryz.sizeOf37 rfl f (by rfl)) ?_
  refine zm rfl ?_
  refine zp (o_add rfl rfl (by omega) (by omega)) ?_
  refine wl_s (fun _ hk => (o_ldBa Tryz.isAgg64 Tryz.sizeOf64 rfl (f_1.k hk (ap_some (by omega))) h32)) ?_
  refine wl_storega Tryz.sizeOf37 rfl rfl (by rfl) (oneCell_of (by rfl)) f4 (by rfl) ?_ (hq := .inr rfl)
  rintro w_3 f_2 g_2 e_2
  simp only [drew_size] at e_2
  have s_2 := g_2.size
  simp only [drew_size] at s_2
  replace hw := hw.trans (below_of_grownBy g_2.g hw.size (by omega))
  replace f_1 := f_1.k g_2.g (ap_some (by omega))
  replace f2 := f2.k g_2.g (ap_some (by omega))
  replace f6 := f6.k g_2.g (ap_some (by omega))
  replace f45 := f45.k g_2.g (ap_some (by omega))
  replace f := f.k g_2.g (ap_some (by omega))
  clear hr8
  clear f55
  clear f4
  refine za rfl ?_
  refine wl_stBa Tryz.sizeOf64 rfl f6 rfl h32 (by rfl) ?_
  rintro w_4 f_3 g_3 e_3
  have s_3 := g_3.size
  replace hw := hw.trans (below_of_grownBy g_3.g hw.size (by omega))
  replace f := f.k g_3.g (ap_some (by omega))
  replace f45 := f45.k g_3.g (ap_some (by omega))
  replace f2 := f2.k g_3.g (ap_some (by omega))
  replace f_1 := f_1.k g_3.g (ap_some (by omega))
  replace f_2 := f_2.k g_3.g (ap_some (by omega))
  clear f6
  refine za rfl ?_
  refine wl_nild ?_
  refine ret_any (vs := [.agg #[.int .u8 (k8.toNat : Int), .slice A45 p.length c45], .int .i64 ((t : Int) + 8), .agg (B8 r).toArray, .int .i64 0]) rfl (.cell rfl Tryz.isAgg37 Tryz.sizeOf37 f_2 rfl (.tmp rfl (.cell rfl Tryz.isAgg64 Tryz.sizeOf64 f_3 (by rw [B8_length, h32]) (.tmp rfl .nil)))) (by simp) ?_
  exact ⟨k8, p, A45, c45, t + 8, r, 0, rfl, f45.base (by omega) (by omega), by rw [ht], h32, hw⟩
 ·rw [decide_eq_false hq, if_neg hq]
  refine rk_true rfl ?_
  refine zs ?_
  refine zp (o_buildg [_, _] Tryz.underlying37 Tryz.zeroValue37 (by rfl) (by rfl) rfl (by rfl) (by rfl) (fun _ => by kernel_rfl)) ?_
  refine zp (o_buildga [_, _, _, _, _, _, _, _, _, _, _, _, _, _, _, _, _, _, _, _, _, _, _, _, _, _, _, _, _, _, _, _] Tryz.underlying64 Tryz.sizeOf5 Tryz.zeroValue64 (by rfl) (by rfl) rfl (by rfl) (by rfl) (fun _ => by kernel_rfl)) ?_
  refine wl_storega Tryz.sizeOf37 rfl rfl (by rfl) (by decide) f4 (by rfl) ?_
  rintro w_3 f_2 g_2 e_2
  have s_2 := g_2.size
  replace hw := hw.trans (below_of_grownBy g_2.g hw.size (by omega))
  replace f := f.k g_2.g (ap_some (by omega))
  replace f45 := f45.k g_2.g (ap_some (by omega))
  replace f6 := f6.k g_2.g (ap_some (by omega))
  replace f2 := f2.k g_2.g (ap_some (by omega))
  replace f_1 := f_1.k g_2.g (ap_some (by omega))
  clear f4
  clear f55
  clear hr8
  refine za rfl ?_
  refine wl_storega Tryz.sizeOf64 rfl rfl (by rfl) (by decide) f6 (by rfl) ?_
  rintro w_4 f_3 g_3 e_3
  have s_3 := g_3.size
  replace hw := hw.trans (below_of_grownBy g_3.g hw.size (by omega))
  replace f_1 := f_1.k g_3.g (ap_some (by omega))
  replace f2 := f2.k g_3.g (ap_some (by omega))
  replace f45 := f45.k g_3.g (ap_some (by omega))
  replace f := f.k g_3.g (ap_some (by omega))
  replace f_2 := f_2.k g_3.g (ap_some (by omega))
  clear f6
  refine za rfl (wl_nil ?_)
  refine ret_any (vs := [.agg #[.int .u8 0, .slice none 0 0], .int .i64 0, .agg (B8 nul32).toArray, .int .i64 4]) rfl (.cell rfl Tryz.isAgg37 Tryz.sizeOf37 f_2 rfl (.tmp rfl (.cell rfl Tryz.isAgg64 Tryz.sizeOf64 f_3 rfl (.tmp rfl .nil)))) (by simp) ?_
  exact ⟨0, [], none, 0, 0, nul32, 4, rfl, OwnH.nil_, rfl, rfl, hw⟩
end Go.Proofs.YtnnhenafhalobaaGreat
