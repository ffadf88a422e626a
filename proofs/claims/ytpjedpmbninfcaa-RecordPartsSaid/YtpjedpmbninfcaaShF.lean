/-
  Walks of package sha: all pieces, one after the other.
-/
import Derived.Test.YtpjedpmbninfcaaShE
namespace Go.Proofs.Ytpjedpmbninfcaa
open Go.RowKit
def chunkB (p : By) (i : Nat) : By := (p.drop (128 * i)).take 128
theorem chunkB_len {p : By} {M i : Nat} (hp : p.length = 128 * M) (hi : i < M) : (chunkB p i).length = 128 := by
  unfold chunkB; rw [List.length_take, List.length_drop]; omega
/-- Behind all pieces. -/
def runU (l : List UInt64) (p : By) : List UInt64 := (List.range (p.length / 128)).foldl (fun s i => pieceU s (chunkB p i)) l
theorem runU_len {l : List UInt64} (p : By) (hl : l.length = 8) : (runU l p).length = 8 := by
  have : ∀ (xs : List Nat) (s : List UInt64), s.length = 8 → (xs.foldl (fun s i => pieceU s (chunkB p i)) s).length = 8 := by
    intro xs
    induction xs with
    | nil => exact fun s h => h
    | cons x xs ih => exact fun s h => ih _ (pieceU_len _ h)
  exact this _ _ hl
def foldF (l : List UInt64) (p : By) {M : Nat} (xs : List (Fin M)) : List UInt64 := xs.foldl (fun s x => pieceU s (chunkB p x.val)) l
theorem foldF_len {l : List UInt64} (p : By) {M : Nat} (hl : l.length = 8) : ∀ xs : List (Fin M), (foldF l p xs).length = 8 := by
  have : ∀ (xs : List (Fin M)) (s : List UInt64), s.length = 8 → (xs.foldl (fun s x => pieceU s (chunkB p x.val)) s).length = 8 := by
    intro xs
    induction xs with
    | nil => exact fun s h => h
    | cons x xs ih => exact fun s h => ih _ (pieceU_len _ h)
  exact fun xs => this xs _ hl
theorem foldF_all (l : List UInt64) {p : By} {M : Nat} (hp : p.length = 128 * M) : foldF l p (List.finRange M) = runU l p := by
  unfold foldF runU
  rw [show p.length / 128 = M by omega]
  have : List.range M = (List.finRange M).map Fin.val := by
    apply List.ext_getElem (by simp)
    intro i h1 h2
    simp
  rw [this, List.foldl_map]
theorem padU_mul (b : By) : ∃ M, (padU b).length = 128 * M := by
  refine ⟨(padU b).length / 128, ?_⟩
  rw [padU_len]
  unfold zeros
  omega
section
variable {P : Program} {N : Nat} {fr : Fr} {w w0 : World} {ty t : TypeId} {x : Operand}
--@ rule sliceToArrayPointer p o_arrptr
--@ rule load r o_ldChunk
theorem o_ldChunk {ad : Addr} {p : By} {k : Nat} (ha' : ∀ w, (isAgg t).run P w = .ok true w) (hs : ∀ w, (sizeOf t).run P w = .ok 128 w) (hx : fr.ev x = some (.pointer (some (ad.add (128 * k))))) (hr : Rd w0 (some ad) p) (hb : Below w0.heap.size w0 w) (hk : 128 * k + 128 ≤ p.length) : OpV P N fr w (.load t x) ty (.agg (B8 (chunkB p k)).toArray) w := by
  have hcl : (B8 (chunkB p k)).length = 128 := by rw [B8_length]; unfold chunkB; rw [List.length_take, List.length_drop]; omega
  refine o_loadn (cs := B8 (chunkB p k)) ha' (by rw [hcl]; exact hs) hx (fun j v hj => ?_)
  have hjl : j < 128 := by
    rcases Nat.lt_or_ge j 128 with h | h
    · exact h
    · rw [List.getElem?_eq_none (by omega)] at hj; cases hj
  have hrd := hr.below hb
  obtain ⟨b, o, e, hc⟩ := hrd.2 (by intro e; have := congrArg List.length e; rw [B8_length, List.length_nil] at this; omega)
  injection e with e
  subst e
  have := hc (128 * k + j) v (by
    unfold chunkB B8 at hj
    rw [List.getElem?_map, List.getElem?_take_of_lt hjl, List.getElem?_drop] at hj
    unfold B8
    rw [List.getElem?_map]; exact hj)
  rw [add_of_add, add_plain]
  exact this
end
theorem blk_noncell {B g : Nat} {W W' : World} {t : TypeId} {cs : List Value} {row : Option Nat} (h : Blk W g t cs) (hg : W.grownBy W' row) (hr : ∀ r, row = some r → B ≤ r ∧ ∃ o : Obj, W.heap[r]? = some o ∧ o.isCells = false) : Blk W' g t cs :=
  h.grown hg (fun e => by
    obtain ⟨_, o, ho, hc⟩ := hr g e.symm
    rw [show W.heap[g]? = _ from h] at ho
    injection ho with ho
    subst ho; cases hc)
theorem rdT_noncell {B : Nat} {W W' : World} {A : Option Addr} {p : By} {row : Option Nat} (h : RdT W A p) (hg : W.grownBy W' row) (hr : ∀ r, row = some r → B ≤ r ∧ ∃ o : Obj, W.heap[r]? = some o ∧ o.isCells = false) : RdT W' A p := by
  have hne : ∀ k, blk A = some k → some k ≠ row := fun k hk e => by
    obtain ⟨_, o, ho, hc⟩ := hr k e.symm
    obtain ⟨cs, f, hcs⟩ := h.2 k hk
    rw [hcs] at ho
    injection ho with ho
    subst ho; cases hc
  refine ⟨h.1.grown hg ?_, fun k hk => (h.2 k hk).keep (hg.block k (h.2 k hk).lt (hne k hk))⟩
  cases hA : blk A with
  | none => exact .inl rfl
  | some k => exact .inr (hne k hA)
theorem eval_defers (a : Act) (ds : List Deferred) : ({ tmps := a.tmps, defers := ds } : Act).eval = a.eval := by
  funext x; cases x <;> rfl
theorem opU_store {P : Program} {N n g : Nat} {fr : Fr} {w : World} {t t' : TypeId} {x y : Operand} {vs cs : List Value} (hs : ∀ w, (sizeOf t).run P w = .ok n w) (hx : fr.ev x = some (.pointer (some ⟨g, 0, none⟩))) (hy : fr.ev y = some (.agg vs.toArray)) (hn : vs.length = n) (h1 : ∀ v ∈ vs, v.oneCell' = true) (hB : Blk w g t' cs) (hi : cs.length = n) :
    ∃ w', OpU P N fr w (.store t x y) w' ∧ Blk w' g t' vs ∧ w.grownBy w' (some g) := by
  obtain ⟨w', hr, hB', hg', hz⟩ := run_storeCells_blk (P := P) (o := 0) vs 0 cs w hB h1 (by omega)
  refine ⟨w', fun a ha op hop => ?_, by rw [spl_all (by omega)] at hB'; exact hB', hg'⟩
  have hcs : (Value.agg vs.toArray).cells = vs.toArray := rfl
  simp [execOp, hop, ha.ev hx, ha.ev hy, Instr.storeAt, Instr.sureAddr, storeVar, hcs, hs, hn, hr]
theorem res_cell {P : Program} {fn : Func} {p n g : Nat} {t t' : TypeId} {w : World} {cs : List Value} {tmps : Array Value} (h : fn.results = #[.cell p t]) (hp : tmps[p]?.getD undef = .pointer (some ⟨g, 0, none⟩)) (ha' : ∀ w, (isAgg t).run P w = .ok true w) (hs : ∀ w, (sizeOf t).run P w = .ok n w) (hB : Blk w g t' cs) (hn : cs.length = n) :
    (results fn tmps).run P w = .ok (.agg cs.toArray) w := by
  subst hn
  have hl : (loadCells ⟨g, 0, none⟩ cs.length).run P w = .ok cs.toArray w := run_loadCells_list (P := P) w ⟨g, 0, none⟩ cs (fun j u hu => by rw [add_plain, hB.cell, Nat.zero_add]; exact hu)
  simp [results, h, hp, asAddr, loadVar, ha', hs, hl]
set_option maxHeartbeats 1000000 in
theorem C_whole {l : List UInt64} {A : Option Addr} {L : List By} {r : List UInt64} {n c : Nat} (w : World) (hK : RKy w A L) (hr : runU l (padU L.flatten) = r) (hl : l.length = 8) (hn : n = L.length) (hL : L.length ≤ 40) (hL2 : ∀ x ∈ L, x.length ≤ 10000) :
    CallsR Try.prog 30 [.agg (vU l).toArray, .slice A n c] w fun v w' => v = .agg (vU r).toArray ∧ Below w.heap.size w w' := by
  subst hn
  refine ⟨⟨_, Try.func30, rfl, by kernel_rfl⟩, ?_⟩
  obtain ⟨p, hp⟩ : ∃ p, padU L.flatten = p := ⟨_, rfl⟩
  have hpm := padU_mul L.flatten
  have hpl : p.length = L.flatten.length + 17 + zeros L.flatten.length := by rw [← hp, padU_len]
  have hfl := flatten_le L 10000 hL2
  have hzl := zeros_lt L.flatten.length
  rw [hp] at hpm hr
  obtain ⟨M, hM⟩ := hpm
  refine (callsIn_wide (n := 3)).1 (callsIn_of_wp_marks Try.func30 rfl trivial ?_)
  refine seq3_of_rk (fn := Try.f30) (I := fun a w' => ∃ g2 g4 g h ad c7, Rep Try.f30.ntmps a [(8, .func (.func 52) #[] #[.pointer (some ⟨g, 0, none⟩), .pointer (some ⟨h, 0, none⟩)]), (4, .pointer (some ⟨g4, 0, none⟩)), (2, .pointer (some ⟨g2, 0, none⟩))] ∧ Blk w' g2 66 (vU l) ∧ Blk w' g4 66 (vU (List.replicate 8 0)) ∧ Blk w' g 26 [.slice (some ad) (128 * M) c7] ∧ Blk w' h 3 [.int .i64 128] ∧ RdT w' (some ad) p ∧ w.heap.size ≤ g2 ∧ w.heap.size ≤ g4 ∧ g2 ≠ g4 ∧ g2 ≠ g ∧ g2 ≠ h ∧ 128 * M ≤ c7 ∧ Below w.heap.size w w') ?_ (entry_rep rfl) ?_
  · have hw := Below.refl w.heap.size w
    refine rk_region ?_
    refine wl_boxg _ rfl (by rfl) ?_
    rintro g2 w2 f2 b2 i2 i2_1
    have s2 := b2.size
    replace hw := hw.trans (b2.mono hw.size)
    refine wl_allocU Try.underlying66 Try.zeroValue66 (by rfl) ?_
    rintro g4 w4 f4 b4 i4 i4_1
    have s4 := b4.size
    replace hw := hw.trans (b4.mono hw.size)
    replace f2 := f2.u b4
    refine wl_nil ?_
    refine rk_region ?_
    refine wl_p (fun _ => o_move rfl) ?_
    refine wl_call rfl (C_padded _ (hK.u hw) hp rfl (by omega) (by omega)) ?_
    rintro v7 w7 ⟨A7, ⟨c7, ⟨rfl, ⟨f7, b7⟩⟩⟩⟩
    have qf7 := f7.cap
    have s7 := b7.size
    replace hw := hw.trans (b7.mono hw.size)
    replace f2 := f2.u b7
    replace f4 := f4.u b7
    refine wl_call rfl (C_Chunk _) ?_
    rintro v8 w8 ⟨g8, ⟨h8, ⟨rfl, ⟨f8, ⟨f8_1, ⟨i8, ⟨i8_1, ⟨i8_2, ⟨i8_3, b8⟩⟩⟩⟩⟩⟩⟩⟩⟩
    have s8 := b8.size
    replace hw := hw.trans (b8.mono hw.size)
    replace f4 := f4.u b8
    replace f2 := f2.u b8
    replace f7 := f7.u b8
    refine wl_nil ?_
    refine rk_inv fun a ha => ?_
    have hq := f7.cap
    obtain ⟨b, o, rfl, _⟩ := f7.to_Rd.2 (by intro e; have := congrArg List.length e; rw [B8_length, List.length_nil] at this; omega)
    refine ⟨g2, g4, g8, h8, ⟨b, o, none⟩, c7, ha.le (Fr.le_of_sub (by repeat' constructor)), f2, f4, by rw [← hM]; exact f8, f8_1, f7.to_RdT, by omega, by omega, by omega, by omega, by omega, by omega, hw⟩
  · rintro a1 w1 ⟨g2, g4, g, h, ad, c7, ha, f2, f4, fg, fh, fp, n1, n2, n3, n4, n5, n6, hw⟩
    have hg1 := fg.lt
    have hh1 := fh.lt
    have hM2 : M ≤ 10000 := by omega
    refine wpIn_block ?_
    refine wpIn_rangeFunc_ownF (α := Fin M) rfl (by decide) (gf := 52) (lb := #[.pointer (some ⟨g, 0, none⟩), .pointer (some ⟨h, 0, none⟩)]) (ha.ev rfl) trivial (enters_of Try.func52 (by kernel_rfl) rfl) (encs := encs (some ad) M) (Kp := KpB g h) (S := fun xs => xs = List.finRange M) (Sp := fun _ => True) (N := M) (w0 := w1)
      (chunk_stops (by decide) w1 fg fh n6 hM2) (fun h k => ⟨k.1.trans h.1, k.2.trans h.2⟩) (fun W l o o' hl _ _ _ => ⟨World.putObj_heap_other (by omega), World.putObj_heap_other (by omega)⟩) (Below.refl _ _) (fun _ => rfl)
      (fun pre W => Blk W g2 66 (vU (foldF l p pre)) ∧ Blk W g4 66 (vU (List.replicate 8 0)) ∧ RdT W (some ad) p ∧ Below w.heap.size w W ∧ w1.heap.size ≤ W.heap.size) (fun _ _ _ => False)
      (fun s X Y row hs hg hr => ⟨blk_noncell hs.1 hg hr, blk_noncell hs.2.1 hg hr, rdT_noncell hs.2.2.1 hg hr, hs.2.2.2.1.grown hg hs.2.2.2.1.size (fun k e => by have := (hr k e).1; have := hw.size; omega), Nat.le_trans hs.2.2.2.2 hg.size⟩)
      (fun _ _ _ _ _ hs _ _ => hs) ⟨f2, f4, fp, hw, Nat.le_refl _⟩
      (fun x => (a1.put (some 9) (.slice (some (ad.add (128 * x.val))) 128 128)).put (some 5) (.slice (some (ad.add (128 * x.val))) 128 128)) ?assign ?body ?done ?stop
    case assign =>
      intro l x W K hKK
      have hrep := ha.put (d := 9) rfl (.slice (some (ad.add (128 * x.val))) 128 128)
      have e : ({ tmps := (#[9].zip (encs (some ad) M x)).foldl (fun t (p, v) => t.setIfInBounds p v) a1.tmps, defers := [] } : Act) = a1.put (some 9) (.slice (some (ad.add (128 * x.val))) 128 128) := by
        simp [encs, Act.put, ha.defers]
      rw [e]
      refine wpIn_region_lit (wpListIn_plain rfl (fun K' hK' => ⟨fun _ _ => trivial, ?_⟩))
      have hrun := (o_assign (P := Try.prog) (w := W) (ty := 26) (x := .tmp 9) rfl : OpV Try.prog _ _ W _ 26 (.slice (some (ad.add (128 * x.val))) 128 128) W) _ hrep
      show Oper.uponIn _ _ _ _ _ _ _ (Sem.run Try.prog (Oper.semAt (some l) _ _) W)
      rw [semAt_plain rfl, hrun _ rfl rfl]
      exact hK' _ _ (wpListIn_nil hKK)
    case body =>
      clear f2 f4 fp
      rintro l0 pre x W ⟨f2, f4, fp, hW, hW1⟩ _
      have hxM := x.isLt
      have hrep : Rep Try.f30.ntmps ((a1.put (some 9) (.slice (some (ad.add (128 * x.val))) 128 128)).put (some 5) (.slice (some (ad.add (128 * x.val))) 128 128)) [(5, .slice (some (ad.add (128 * x.val))) 128 128), (2, .pointer (some ⟨g2, 0, none⟩))] :=
        ((ha.put (d := 9) rfl _).put (d := 5) rfl _).le (Fr.le_of_sub (by repeat' constructor))
      have hlf := foldF_len p hl pre
      have hkk : 128 * x.val + 128 ≤ p.length := by omega
      have hcl := chunkB_len (i := x.val) hM hxM
      refine wpIn_block (wpIn_mono ((?_ : RIn Try.prog Try.f30 Try.f30.ntmps (fun _ W' => KeepsOthers W W' ∧ KpB g h W W' ∧ Blk W' g2 66 (vU (foldF l p (pre ++ [x]))) ∧ Blk W' g4 66 (vU (List.replicate 8 0)) ∧ RdT W' (some ad) p ∧ Below w.heap.size w W' ∧ w1.heap.size ≤ W'.heap.size) l0 1 _ _ W) _ hrep) (fun e a w he => ?_))
      · have hpl8 : (pieceU (foldF l p pre) (chunkB p x.val)).length = 8 := pieceU_len _ hlf
        clear hw fg fh ha hrep
        refine in_draw (id := 3) (none) [0, 0, 2, 4, 9, 31] [0, 0, 2, 6, 15, 31] 48 0 [(.r, 0), (.p, 1), (.p, 2), (.r, 3), (.l, 4), (.l, 5)] (by kernel_rfl) (by kernel_rfl) (by kernel_rfl) (by kernel_rfl) (by kernel_rfl) ?_
        replace f2 := f2.d
        replace f4 := f4.d
        replace fp := fp.d
        have hw := hW.drew
        have hWw := hW.size
        refine wl_r (o_ldUa Try.isAgg66 Try.sizeOf66 rfl f2 hlf) ?_
        refine wl_p (fun _ => o_move rfl) ?_
        refine wl_p (fun _ => (o_arrptr Try.underlying85 rfl (by omega))) ?_
        refine wl_r (o_ldChunk Try.isAgg85 Try.sizeOf85 rfl fp.to_Rd (Below.refl _ _) (by omega)) ?_
        refine wl_call rfl (C_Piece _ (by rfl) hlf hcl) ?_
        rintro v14 w14 ⟨rfl, b14⟩
        simp only [drew_size] at b14
        have s14 := b14.size
        simp only [drew_size] at s14
        replace hw := hw.trans (b14.mono hw.size)
        replace fp := fp.u b14
        replace f4 := f4.u b14
        replace f2 := f2.u b14
        refine wl_stUa Try.sizeOf66 rfl f2 rfl hpl8 hlf ?_
        rintro w_1 f g_1 e
        have s := g_1.size
        replace hw := hw.trans (below_of_grownBy g_1.g hw.size (by omega))
        replace f4 := f4.k g_1.g (ap_some (by omega))
        replace fp := fp.y g_1 (by decide)
        clear f2
        refine wl_nild ?_
        refine rk_inv fun a ha => ?_
        have hB : Below W.drew.heap.size W.drew w14 := by assumption
        have hG : Grew w14 w_1 66 (some g2) := by assumption
        have hs1 := hB.size
        have hs2 := hG.g.size
        have hs0 : W.drew.heap.size = W.heap.size := rfl
        refine ⟨(KeepsOthers.drew W).trans ((KeepsOthers.of_grownBy (grown_of_below hB none) (fun j o e => by cases e)).trans (KeepsOthers.of_grownBy hG.g (fun j o e ho => ?_))), ⟨?_, ?_⟩, ?_, f4, fp, hw, by omega⟩
        · obtain ⟨cs, f, hcs⟩ := hG.2 j e
          rw [hcs] at ho
          injection ho with ho
          subst ho; rfl
        · rw [hG.g.block g (by omega) (by intro e; injection e with e; omega), hB.block g (by omega)]; rfl
        · rw [hG.g.block h (by omega) (by intro e; injection e with e; omega), hB.block h (by omega)]; rfl
        · rw [show foldF l p (pre ++ [x]) = pieceU (foldF l p pre) (chunkB p x.val) by simp [foldF, List.foldl_append]]
          exact f
      · obtain ⟨rfl, h1, h2, h3⟩ := kpost_inv he
        exact ⟨h1, h2, h3⟩
    case done =>
      rintro D xs W hD rfl ⟨e2, e4, ep, hW, hW1⟩ hKD
      rw [foldF_all l hM, hr] at e2
      have hr8 : r.length = 8 := by rw [← hr]; exact runU_len p hl
      have hg2 := f2.lt
      have hg4 := f4.lt
      show Code.wpIn Fence.wide 3 Try.prog _ _ { tmps := a1.tmps, defers := _ } W
      refine wpIn_seq (wpIn_region_lit (wpListIn_plain rfl (fun K hK => ⟨fun _ _ => trivial, ?_⟩)))
      have hrun := (o_ldUa (P := Try.prog) (N := Try.f30.ntmps) (ty := 66) (x := .tmp 2) Try.isAgg66 Try.sizeOf66 rfl e2 hr8 : OpV Try.prog _ [(8, _), (4, _), (2, _)] W _ _ _ W) _ ha
      have hsem : ∀ (ρ : Operand → Value) (o : Oper), o.semAt Fence.wide.round ρ = execOp ρ o := fun _ _ => rfl
      rw [hsem, eval_defers, hrun _ rfl rfl]
      refine hK _ _ ?_
      have ha2 := ha.put (d := 15) rfl (.agg (vU r).toArray)
      obtain ⟨w2, hst, hB2, hgr⟩ := opU_store (P := Try.prog) (N := Try.f30.ntmps) (fr := (15, .agg (vU r).toArray) :: [(8, .func (.func 52) #[] #[.pointer (some ⟨g, 0, none⟩), .pointer (some ⟨h, 0, none⟩)]), (4, .pointer (some ⟨g4, 0, none⟩)), (2, .pointer (some ⟨g2, 0, none⟩))]) (x := .tmp 4) (y := .tmp 15) Try.sizeOf66 rfl rfl (by rw [vU_length, hr8]) (vU_one r) e4 (by rw [vU_length, List.length_replicate])
      refine wpListIn_plain rfl (fun K hK => ⟨fun _ _ => trivial, ?_⟩)
      rw [hsem, show Act.eval (Act.put _ _ _) = (a1.put (some 15) (.agg (vU r).toArray)).eval by funext x; cases x <;> rfl, hst _ ha2 _ rfl]
      refine hK _ _ (wpListIn_nil (wpIn_ret ?_))
      have hDne : D ≠ g4 := by omega
      have hDlt : D < W.heap.size := (Array.getElem?_eq_some_iff.1 hKD).1
      have hKD2 : w2.heap[D]? = some (.deferred (some [])) := (hgr.block D hDlt (by intro e; injection e with e; omega)).trans hKD
      show LeavesInM Fence.wide 3 Try.prog _ (a1.put (some 15) (.agg (vU r).toArray)).tmps _ (_ :: a1.defers) .returning w2
      rw [ha.defers]
      refine ⟨by simp, .inl ⟨D, _, rfl, run_takeDeferred hKD2, ?_⟩⟩
      have hB3 : Blk (w2.putObj D (.deferred none)) g4 66 (vU r) := (World.putObj_heap_other (Ne.symm hDne)).trans hB2
      have hb2 := hW.grown hgr hW.size (fun k e => by injection e with e; omega)
      have hb3 := hb2.grown (grownBy_putObj' w2 D (.deferred none)) hb2.size (fun k e => by injection e with e; have := hw.size; omega)
      exact ⟨_, res_cell rfl (by rw [ha2.get 4 _ rfl]; rfl) Try.isAgg66 Try.sizeOf66 hB3 (by rw [vU_length, hr8]), _, rfl, rfl, hb3⟩
    case stop => exact fun D c pre W _ _ h _ => h.elim
end Go.Proofs.Ytpjedpmbninfcaa
