/-
  Walks of package ops: an op done to a state.
-/
import Derived.Test.YtahkeoegbjopfaaMg7
import Derived.Laws.IdiomStrings
namespace Go.Proofs.Ytahkeoegbjopfaa
open Go.RowKit
theorem Grew.after2 {w w1 w' : World} {e : TypeId} {r : Option Nat} (h : Below w.heap.size w w1) (k : Grew w1 w' e r) : ∃ r', Grew w w' e r' ∧ ∀ b, r' = some b → r = some b := by
  rcases r with _ | b
  · exact ⟨none, ⟨grownBy_trans (grown_of_below h _) k.g, fun b hb => (by cases hb)⟩, fun b hb => hb⟩
  · by_cases hb : b < w.heap.size
    · refine ⟨some b, ⟨grownBy_trans (grown_of_below h _) k.g, fun q hq => ?_⟩, fun q hq => hq⟩
      injection hq with hq
      subst hq
      exact (k.ty b rfl).keep (h.block b hb).symm
    · exact ⟨none, Grew.none_ (h.trans (k.below h.size (fun q hq => by injection hq with hq; omega))), fun q hq => (by cases hq)⟩
theorem StCh.after {w w1 w' : World} {B g : Nat} (h : StCh B g w1 w') (hb : Below w.heap.size w w1) : StCh B g w w' := by
  obtain ⟨x1, x2, r1, r2, g1, g2, g3, t1, t2⟩ := h.ex
  obtain ⟨r', k1, k2⟩ := Grew.after2 hb g1
  exact ⟨x1, x2, r', r2, k1, g2, g3, fun k hk => t1 k (k2 k hk), t2⟩
theorem K_doAddWriter {K V : Option Addr} {n c m d B g : Nat} {k : Int} {u : Ky} {S : Stt} (w : World) (hS : StAt w B g S) (hl : S.2.1.length ≤ 100000) (hs : IncK S.2.1) :
    CallsR Try.prog 63 [.pointer (some ⟨g, 0, none⟩), .agg (opC k K n c V m d u).toArray] w fun v w' => v = .bool (addS S.2.1 u 16).2 ∧ StAt w' B g (S.1, (addS S.2.1 u 16).1, S.2.2) ∧ StCh B g w w' := by
  obtain ⟨A, ca, A2, c2, A3, c3, f0, f1, f2, f3, q7, q8⟩ := hS.ex
  refine callsR Try.func63 rfl rfl (by kernel_rfl) rfl ?_
  have hw := Below.refl w.heap.size w
  refine rk_seq ?_
  refine rk_region ?_
  refine wl_boxg _ rfl (by rfl) ?_
  rintro g3 w3 f3_1 b3 i3 i3_1
  have s3 := b3.size
  replace hw := hw.trans (b3.mono hw.size)
  refine wl_p (fun _ => o_assign rfl) ?_
  refine wl_nil ?_
  refine rk_seq ?_
  refine rk_draw (id := 1) (none) [0, 1, 2, 0, 8, 20, 63] [0, 1, 3, 0, 8, 31, 63] 32 0 [(.p, 0), (.p, 1), (.p, 2), (.p, 3), (.r, 4), (.l, 5), (.p, 6)] (by kernel_rfl) (by kernel_rfl) (by kernel_rfl) (by kernel_rfl) (by kernel_rfl) ?_
  replace hw := hw.drew
  replace f3_1 := f3_1.d
  refine wl_p (fun _ => o_move rfl) ?_
  refine wl_p (fun _ => o_nil rfl) ?_
  refine wl_p (fun _ => o_faddr (s := 27) (i := 1) (off := 1) Try.underlying27 rfl Try.sizeOf25 rfl rfl rfl) ?_
  refine wl_p (fun _ => o_faddr (s := 31) (i := 3) (off := 3) Try.underlying31 rfl Try.sizeOf29 rfl rfl rfl) ?_
  refine wl_r (o_ldWho rfl f3_1) ?_
  have hS2 := (hS.same hw).1
  refine wl_call rfl (K_addW (most := 16) _ hS2 hl hs (by omega)) ?_
  rintro _ w10 ⟨rfl, h3, h4⟩
  refine wl_p (fun _ => o_assign rfl) ?_
  refine wl_nild ?_
  refine ret1 rfl rfl ?_
  exact ⟨rfl, h3, h4.after hw⟩
theorem K_doDropWriter {K V : Option Addr} {n c m d B g : Nat} {k : Int} {u : Ky} {S : Stt} (w : World) (hS : StAt w B g S) (hl : S.2.1.length ≤ 100000) (hs : IncK S.2.1) :
    CallsR Try.prog 64 [.pointer (some ⟨g, 0, none⟩), .agg (opC k K n c V m d u).toArray] w fun v w' => v = .bool (dropS S.2.1 u 0).2 ∧ StAt w' B g (S.1, (dropS S.2.1 u 0).1, S.2.2) ∧ StCh B g w w' := by
  obtain ⟨A, ca, A2, c2, A3, c3, f0, f1, f2, f3, q7, q8⟩ := hS.ex
  refine callsR Try.func64 rfl rfl (by kernel_rfl) rfl ?_
  have hw := Below.refl w.heap.size w
  refine rk_seq ?_
  refine rk_region ?_
  refine wl_boxg _ rfl (by rfl) ?_
  rintro g3 w3 f3_1 b3 i3 i3_1
  have s3 := b3.size
  replace hw := hw.trans (b3.mono hw.size)
  refine wl_p (fun _ => o_assign rfl) ?_
  refine wl_nil ?_
  refine rk_seq ?_
  refine rk_draw (id := 1) (none) [0, 1, 2, 0, 8, 20, 63] [0, 1, 3, 0, 8, 31, 63] 32 0 [(.p, 0), (.p, 1), (.p, 2), (.p, 3), (.r, 4), (.l, 5), (.p, 6)] (by kernel_rfl) (by kernel_rfl) (by kernel_rfl) (by kernel_rfl) (by kernel_rfl) ?_
  replace hw := hw.drew
  replace f3_1 := f3_1.d
  refine wl_p (fun _ => o_move rfl) ?_
  refine wl_p (fun _ => o_nil rfl) ?_
  refine wl_p (fun _ => o_faddr (s := 27) (i := 1) (off := 1) Try.underlying27 rfl Try.sizeOf25 rfl rfl rfl) ?_
  refine wl_p (fun _ => o_faddr (s := 31) (i := 3) (off := 3) Try.underlying31 rfl Try.sizeOf29 rfl rfl rfl) ?_
  refine wl_r (o_ldWho rfl f3_1) ?_
  have hS2 := (hS.same hw).1
  refine wl_call rfl (K_dropW (least := 0) _ hS2 hl hs (by omega)) ?_
  rintro _ w10 ⟨rfl, h3, h4⟩
  refine wl_p (fun _ => o_assign rfl) ?_
  refine wl_nild ?_
  refine ret1 rfl rfl ?_
  exact ⟨rfl, h3, h4.after hw⟩
theorem K_doAddIndexer {K V : Option Addr} {n c m d B g : Nat} {k : Int} {u : Ky} {S : Stt} (w : World) (hS : StAt w B g S) (hl : S.2.2.length ≤ 100000) (hs : IncK S.2.2) :
    CallsR Try.prog 65 [.pointer (some ⟨g, 0, none⟩), .agg (opC k K n c V m d u).toArray] w fun v w' => v = .bool (addS S.2.2 u 16).2 ∧ StAt w' B g (S.1, S.2.1, (addS S.2.2 u 16).1) ∧ StCh B g w w' := by
  obtain ⟨A, ca, A2, c2, A3, c3, f0, f1, f2, f3, q7, q8⟩ := hS.ex
  refine callsR Try.func65 rfl rfl (by kernel_rfl) rfl ?_
  have hw := Below.refl w.heap.size w
  refine rk_seq ?_
  refine rk_region ?_
  refine wl_boxg _ rfl (by rfl) ?_
  rintro g3 w3 f3_1 b3 i3 i3_1
  have s3 := b3.size
  replace hw := hw.trans (b3.mono hw.size)
  refine wl_p (fun _ => o_assign rfl) ?_
  refine wl_nil ?_
  refine rk_seq ?_
  refine rk_draw (id := 1) (none) [0, 1, 2, 0, 8, 20, 63] [0, 1, 3, 0, 8, 31, 63] 32 0 [(.p, 0), (.p, 1), (.p, 2), (.p, 3), (.r, 4), (.l, 5), (.p, 6)] (by kernel_rfl) (by kernel_rfl) (by kernel_rfl) (by kernel_rfl) (by kernel_rfl) ?_
  replace hw := hw.drew
  replace f3_1 := f3_1.d
  refine wl_p (fun _ => o_move rfl) ?_
  refine wl_p (fun _ => o_nil rfl) ?_
  refine wl_p (fun _ => o_faddr (s := 27) (i := 2) (off := 2) Try.underlying27 rfl Try.sizeOf25 rfl rfl rfl) ?_
  refine wl_p (fun _ => o_faddr (s := 31) (i := 3) (off := 3) Try.underlying31 rfl Try.sizeOf29 rfl rfl rfl) ?_
  refine wl_r (o_ldWho rfl f3_1) ?_
  have hS2 := (hS.same hw).1
  refine wl_call rfl (K_addX (most := 16) _ hS2 hl hs (by omega)) ?_
  rintro _ w10 ⟨rfl, h3, h4⟩
  refine wl_p (fun _ => o_assign rfl) ?_
  refine wl_nild ?_
  refine ret1 rfl rfl ?_
  exact ⟨rfl, h3, h4.after hw⟩
theorem K_doDropIndexer {K V : Option Addr} {n c m d B g : Nat} {k : Int} {u : Ky} {S : Stt} (w : World) (hS : StAt w B g S) (hl : S.2.2.length ≤ 100000) (hs : IncK S.2.2) :
    CallsR Try.prog 66 [.pointer (some ⟨g, 0, none⟩), .agg (opC k K n c V m d u).toArray] w fun v w' => v = .bool (dropS S.2.2 u 1).2 ∧ StAt w' B g (S.1, S.2.1, (dropS S.2.2 u 1).1) ∧ StCh B g w w' := by
  obtain ⟨A, ca, A2, c2, A3, c3, f0, f1, f2, f3, q7, q8⟩ := hS.ex
  refine callsR Try.func66 rfl rfl (by kernel_rfl) rfl ?_
  have hw := Below.refl w.heap.size w
  refine rk_seq ?_
  refine rk_region ?_
  refine wl_boxg _ rfl (by rfl) ?_
  rintro g3 w3 f3_1 b3 i3 i3_1
  have s3 := b3.size
  replace hw := hw.trans (b3.mono hw.size)
  refine wl_p (fun _ => o_assign rfl) ?_
  refine wl_nil ?_
  refine rk_seq ?_
  refine rk_draw (id := 1) (none) [0, 1, 2, 0, 8, 20, 63] [0, 1, 3, 0, 8, 31, 63] 32 0 [(.p, 0), (.p, 1), (.p, 2), (.p, 3), (.r, 4), (.l, 5), (.p, 6)] (by kernel_rfl) (by kernel_rfl) (by kernel_rfl) (by kernel_rfl) (by kernel_rfl) ?_
  replace hw := hw.drew
  replace f3_1 := f3_1.d
  refine wl_p (fun _ => o_move rfl) ?_
  refine wl_p (fun _ => o_nil rfl) ?_
  refine wl_p (fun _ => o_faddr (s := 27) (i := 2) (off := 2) Try.underlying27 rfl Try.sizeOf25 rfl rfl rfl) ?_
  refine wl_p (fun _ => o_faddr (s := 31) (i := 3) (off := 3) Try.underlying31 rfl Try.sizeOf29 rfl rfl rfl) ?_
  refine wl_r (o_ldWho rfl f3_1) ?_
  have hS2 := (hS.same hw).1
  refine wl_call rfl (K_dropX (least := 1) _ hS2 hl hs (by omega)) ?_
  rintro _ w10 ⟨rfl, h3, h4⟩
  refine wl_p (fun _ => o_assign rfl) ?_
  refine wl_nild ?_
  refine ret1 rfl rfl ?_
  exact ⟨rfl, h3, h4.after hw⟩
/-- A state whose parts are as a valid one's. -/
structure StOk (S : Stt) : Prop where
  i : OkI S.1
  x : IncK S.2.1
  y : IncK S.2.2
  li : S.1.length ≤ 100000
  lx : S.2.1.length ≤ 100000
  ly : S.2.2.length ≤ 100000
theorem OkI.lt {I : List (By × By)} (h : OkI I) : LtI I := fun x hx => by
  obtain ⟨i, hi, rfl⟩ := List.getElem_of_mem hx
  have := (h i hi).1
  omega
/-- Any of them. -/
theorem sh4_do {k kk : Int} {gf pf rf df : Nat} (h : Sh4 k gf pf rf df) {K V : Option Addr} {p q : By} {n c m d B g : Nat} {u : Ky} {S : Stt} (w : World) (hS : StAt w B g S) (ho : StOk S) (hK : Rd w K p) (hV : Rd w V q) (hn : n = p.length) (hm : m = q.length) (hp : p.length ≤ 4000000) (hq : q.length ≤ 4000000) :
    CallsR Try.prog df [.pointer (some ⟨g, 0, none⟩), .agg (opC kk K n c V m d u).toArray] w fun v w' => v = .bool (doS k S p q u).2 ∧ StAt w' B g (doS k S p q u).1 ∧ StCh B g w w' := by
  rcases h with ⟨rfl, _, _, _, rfl⟩ | ⟨rfl, _, _, _, rfl⟩ | ⟨rfl, _, _, _, rfl⟩ | ⟨rfl, _, _, _, rfl⟩ | ⟨rfl, _, _, _, rfl⟩ | ⟨rfl, _, _, _, rfl⟩
  · exact K_doPut w hS hK hV hn hm hp hq ho.li ho.i.lt ho.i.srt
  · exact K_doDelete w hS hK hn hp ho.li ho.i.lt ho.i.srt
  · exact K_doAddWriter w hS ho.lx ho.x
  · exact K_doDropWriter w hS ho.lx ho.x
  · exact K_doAddIndexer w hS ho.ly ho.y
  · exact K_doDropIndexer w hS ho.ly ho.y
/-- May a writer do an op? -/
def mayS (S : Stt) (wr : Ky) (k : Int) (n m : Nat) (u : Ky) : Prop := okOp k n m u = true ∧ wr ∈ S.2.1 ∧ ((k ≠ 1 ∧ k ≠ 2) → wr ∈ S.2.2)
instance (S : Stt) (wr : Ky) (k : Int) (n m : Nat) (u : Ky) : Decidable (mayS S wr k n m u) := by unfold mayS; infer_instance
/-- An op of a writer, done to a valid state. -/
def stS (S : Stt) (wr : Ky) (o : Opn) : Stt × Bool := if mayS S wr o.1 o.2.1.length o.2.2.1.length o.2.2.2 then doS o.1 S o.2.1 o.2.2.1 o.2.2.2 else (S, false)
theorem K_step {K V : Option Addr} {p q : By} {n c m d B g : Nat} {k : Int} {u wr : Ky} {S : Stt} (w : World) (hS : StAt w B g S) (ho : StOk S) (hK : Rd w K p) (hV : Rd w V q) (hn : n = p.length) (hm : m = q.length) (hp : p.length ≤ 4000000) (hq : q.length ≤ 4000000) :
    CallsR Try.prog 38 [.pointer (some ⟨g, 0, none⟩), .agg (B8 wr.1).toArray, .agg (opC k K n c V m d u).toArray] w fun v w' => v = .bool (stS S wr (k, p, q, u)).2 ∧ StAt w' B g (stS S wr (k, p, q, u)).1 ∧ StCh B g w w' := by
  subst hn; subst hm
  obtain ⟨A, ca, A2, c2, A3, c3, f0, f1, f2, f3, q7, q8⟩ := hS.ex
  have hlx := ho.lx
  have hly := ho.ly
  unfold stS
  dsimp only
  refine callsR Try.func38 rfl rfl (by kernel_rfl) rfl ?_
  have hw := Below.refl w.heap.size w
  by_cases hk : 1 ≤ k ∧ k ≤ 6
  · obtain ⟨hk1, hk2⟩ := hk
    refine rk_seq ?_
    refine rk_region ?_
    refine wl_boxg _ rfl (by rfl) ?_
    rintro g4 w4 f4 b4 i4 i4_1
    have s4 := b4.size
    replace hw := hw.trans (b4.mono hw.size)
    refine wl_boxg _ rfl (by rfl) ?_
    rintro g5 w5 f5 b5 i5 i5_1
    have s5 := b5.size
    replace hw := hw.trans (b5.mono hw.size)
    replace f4 := f4.u b5
    refine wl_p (fun _ => o_assign rfl) ?_
    refine wl_nil ?_
    refine rk_seq ?_
    refine rk_region ?_
    refine wl_p (fun _ => o_faddr (s := 31) (i := 0) (off := 0) Try.underlying31 rfl Try.sizeOf3 rfl rfl rfl) ?_
    refine wl_r (o_loadbg Try.isAgg3 rfl f5 (by rfl)) ?_
    refine wl_call rfl (C_formOk _ (by omega) (by omega)) ?_
    rintro v12 w12 ⟨gf12, ⟨pf12, ⟨rf12, ⟨df12, ⟨rfl, ⟨i12, b12⟩⟩⟩⟩⟩⟩
    have s12 := b12.size
    replace hw := hw.trans (b12.mono hw.size)
    replace f4 := f4.u b12
    replace f5 := f5.u b12
    refine wl_p (fun _ => o_move rfl) ?_
    refine wl_p (fun _ => o_ext20 rfl) ?_
    refine wl_p (fun _ => o_ext21 rfl) ?_
    refine wl_allocg [_, _, _, _] Try.zeroValue69 (by rfl) ?_
    rintro g7 w7 f7 b7 i7 i7_1
    have s7 := b7.size
    replace hw := hw.trans (b7.mono hw.size)
    replace f5 := f5.u b7
    replace f4 := f4.u b7
    refine wl_storega Try.sizeOf69 rfl rfl (by rfl) (oneCell_of (by rfl)) f7 (by rfl) ?_
    rintro w_1 f g_1 e
    have s := g_1.size
    replace hw := hw.trans (below_of_grownBy g_1.g hw.size (by omega))
    replace f4 := f4.k g_1.g (ap_some (by omega))
    replace f5 := f5.k g_1.g (ap_some (by omega))
    clear f7
    refine wl_p (fun _ => o_assign rfl) ?_
    refine wl_nil ?_
    refine rk_seq ?_
    refine rk_seq ?_
    refine rk_draw (id := 2) (none) [0, 1, 2, 4, 12, 4, 52, 68, 132, 320, 512, 1536, 2560, 4608, 512, 25088, 33280, 66048] [0, 1, 3, 7, 15, 7, 63, 127, 255, 511, 1023, 2047, 4095, 8191, 1023, 32767, 65535, 131071] 32832 0 [(.p, 0), (.p, 1), (.p, 2), (.p, 3), (.r, 4), (.r, 5), (.l, 6), (.p, 7), (.p, 8), (.p, 9), (.p, 10), (.p, 11), (.p, 12), (.r, 13), (.r, 14), (.l, 15), (.p, 16), (.p, 17)] (by kernel_rfl) (by kernel_rfl) (by kernel_rfl) (by kernel_rfl) (by kernel_rfl) ?_
    replace hw := hw.drew
    replace f5 := f5.d
    replace f4 := f4.d
    replace f := f.d
    refine wl_p (fun _ => o_move rfl) ?_
    refine wl_p (fun _ => o_not rfl) ?_
    refine wl_p (fun _ => o_move rfl) ?_
    refine wl_p (fun _ => o_faddr (s := 69) (i := 0) (off := 0) Try.underlying69 rfl Try.sizeOf64 rfl rfl rfl) ?_
    refine wl_r (o_loadbg Try.isAgg64 rfl f (by rfl)) ?_
    refine wl_r (o_loadag Try.isAgg31 Try.sizeOf31 rfl f5 (opC_length ..)) ?_
    refine wl_know 17 false rfl (by simp) ?_
    refine wl_callf (xs := [_]) (cs := []) rfl rfl (sh4_good i12 _ (by omega) (by omega)) ?_
    rintro _ w21 ⟨rfl, b21⟩
    have sb21 := b21.size
    simp only [drew_size] at sb21
    replace hw := hw.trans (b21.mono hw.size)
    replace f := f.u b21
    replace f4 := f4.u b21
    replace f5 := f5.u b21
    cases hgd : goodS k p.length q.length u
    · rw [if_neg (fun h => by have := (okOp_of h.1).2.2; rw [hgd] at this; cases this)]
      refine wl_p (fun _ => o_not rfl) ?_
      refine wl_p (fun _ => o_pick_f rfl rfl) ?_
      refine wl_p (fun _ => o_move rfl) ?_
      refine wl_off ?_
      refine wl_off ?_
      refine wl_off ?_
      refine wl_off ?_
      refine wl_off ?_
      refine wl_off ?_
      refine wl_off ?_
      refine wl_p (fun _ => o_pick_t rfl rfl) ?_
      refine wl_nild ?_
      refine rk_true rfl ?_
      refine rk_seq ?_
      refine rk_region ?_
      refine wl_p (fun _ => o_assign rfl) ?_
      refine wl_nil ?_
      refine ret1 rfl rfl ?_
      exact ⟨rfl, hS.same hw⟩
    have hok : okOp k p.length q.length u = true := by simp [okOp, hgd, hk1, hk2]
    by_cases hx : wr ∈ S.2.1
    · refine wl_p (fun _ => o_not rfl) ?_
      refine wl_p (fun _ => o_pick_f rfl rfl) ?_
      refine wl_p (fun _ => o_move rfl) ?_
      refine wl_p (fun _ => o_move rfl) ?_
      refine wl_p (fun _ => o_nil rfl) ?_
      refine wl_p (fun _ => o_faddr (s := 27) (i := 1) (off := 1) Try.underlying27 rfl Try.sizeOf25 rfl rfl rfl) ?_
      refine wl_r (o_loadbg Try.isAgg25 rfl (f0.u hw) (by rfl)) ?_
      refine wl_r (o_ldKyB rfl f4) ?_
      refine wl_call rfl (C_member _ (f2.u hw).to_RKs rfl (by omega)) ?_
      rintro v30 w30 ⟨rfl, b30⟩
      have s30 := b30.size
      replace hw := hw.trans (b30.mono hw.size)
      replace f5 := f5.u b30
      replace f4 := f4.u b30
      replace f := f.u b30
      refine wl_p (fun _ => o_not rfl) ?_
      refine wl_p (fun _ => o_pick_f rfl rfl) ?_
      refine wl_nild ?_
      rw [decide_eq_true hx]
      by_cases h12 : k = 1 ∨ k = 2
      · rw [if_pos ⟨hok, hx, fun h => absurd h12 (by omega)⟩]
        rcases h12 with rfl | rfl
        · refine rk_false rfl ?_
          refine rk_skip ?_
          refine rk_seq ?_
          refine rk_seq ?_
          refine rk_draw (id := 4) (none) [0, 1, 2, 4, 8, 24, 40, 72, 136, 256, 768, 1280, 2304, 256, 12544, 16640, 33024] [0, 1, 3, 7, 15, 31, 63, 127, 255, 511, 1023, 2047, 4095, 511, 16383, 32767, 65535] 16384 0 [(.p, 0), (.r, 1), (.p, 2), (.p, 3), (.p, 4), (.r, 5), (.p, 6), (.p, 7), (.p, 8), (.p, 9), (.p, 10), (.p, 11), (.r, 12), (.r, 13), (.l, 14), (.p, 15), (.p, 16)] (by kernel_rfl) (by kernel_rfl) (by kernel_rfl) (by kernel_rfl) (by kernel_rfl) ?_
          replace hw := hw.drew
          replace f5 := f5.d
          replace f := f.d
          replace f4 := f4.d
          refine wl_p (fun _ => o_faddr (s := 31) (i := 0) (off := 0) Try.underlying31 rfl Try.sizeOf3 rfl rfl rfl) ?_
          refine wl_r (o_loadbg Try.isAgg3 rfl f5 (by rfl)) ?_
          refine wl_p (fun _ => o_ne rfl rfl) ?_
          refine wl_p (fun _ => o_move rfl) ?_
          refine wl_off ?_
          refine wl_off ?_
          refine wl_off ?_
          refine wl_p (fun _ => o_pick_f rfl rfl) ?_
          refine wl_p (fun _ => o_move rfl) ?_
          refine wl_off ?_
          refine wl_off ?_
          refine wl_off ?_
          refine wl_off ?_
          refine wl_off ?_
          refine wl_off ?_
          refine wl_off ?_
          refine wl_p (fun _ => o_pick_f rfl rfl) ?_
          refine wl_nild ?_
          refine rk_false rfl ?_
          refine rk_skip ?_
          refine rk_seq ?_
          refine rk_region ?_
          refine wl_p (fun _ => o_faddr (s := 69) (i := 3) (off := 3) Try.underlying69 rfl Try.sizeOf67 rfl rfl rfl) ?_
          refine wl_r (o_loadbg Try.isAgg67 rfl f (by rfl)) ?_
          refine wl_p (fun _ => o_move rfl) ?_
          refine wl_r (o_loadag Try.isAgg31 Try.sizeOf31 rfl f5 (opC_length ..)) ?_
          refine wl_callf (xs := [_, _]) (cs := []) rfl rfl (sh4_do i12 _ (hS.same hw).1 ho (hK.below hw) (hV.below hw) rfl rfl hp hq) ?_
          rintro _ w54 ⟨rfl, e1, e2⟩
          have e3 := e2.after hw
          clear hw
          refine wl_p (fun _ => o_assign rfl) ?_
          refine wl_nil ?_
          refine ret1 rfl rfl ?_
          exact ⟨rfl, e1, e3⟩
        · refine rk_false rfl ?_
          refine rk_skip ?_
          refine rk_seq ?_
          refine rk_seq ?_
          refine rk_draw (id := 4) (none) [0, 1, 2, 4, 8, 24, 40, 72, 136, 256, 768, 1280, 2304, 256, 12544, 16640, 33024] [0, 1, 3, 7, 15, 31, 63, 127, 255, 511, 1023, 2047, 4095, 511, 16383, 32767, 65535] 16384 0 [(.p, 0), (.r, 1), (.p, 2), (.p, 3), (.p, 4), (.r, 5), (.p, 6), (.p, 7), (.p, 8), (.p, 9), (.p, 10), (.p, 11), (.r, 12), (.r, 13), (.l, 14), (.p, 15), (.p, 16)] (by kernel_rfl) (by kernel_rfl) (by kernel_rfl) (by kernel_rfl) (by kernel_rfl) ?_
          replace hw := hw.drew
          replace f5 := f5.d
          replace f := f.d
          replace f4 := f4.d
          refine wl_p (fun _ => o_faddr (s := 31) (i := 0) (off := 0) Try.underlying31 rfl Try.sizeOf3 rfl rfl rfl) ?_
          refine wl_r (o_loadbg Try.isAgg3 rfl f5 (by rfl)) ?_
          refine wl_p (fun _ => o_ne rfl rfl) ?_
          refine wl_p (fun _ => o_move rfl) ?_
          refine wl_p (fun _ => o_faddr (s := 31) (i := 0) (off := 0) Try.underlying31 rfl Try.sizeOf3 rfl rfl rfl) ?_
          refine wl_r (o_loadbg Try.isAgg3 rfl f5 (by rfl)) ?_
          refine wl_p (fun _ => o_ne rfl rfl) ?_
          refine wl_p (fun _ => o_pick_t rfl rfl) ?_
          refine wl_p (fun _ => o_move rfl) ?_
          refine wl_off ?_
          refine wl_off ?_
          refine wl_off ?_
          refine wl_off ?_
          refine wl_off ?_
          refine wl_off ?_
          refine wl_off ?_
          refine wl_p (fun _ => o_pick_f rfl rfl) ?_
          refine wl_nild ?_
          refine rk_false rfl ?_
          refine rk_skip ?_
          refine rk_seq ?_
          refine rk_region ?_
          refine wl_p (fun _ => o_faddr (s := 69) (i := 3) (off := 3) Try.underlying69 rfl Try.sizeOf67 rfl rfl rfl) ?_
          refine wl_r (o_loadbg Try.isAgg67 rfl f (by rfl)) ?_
          refine wl_p (fun _ => o_move rfl) ?_
          refine wl_r (o_loadag Try.isAgg31 Try.sizeOf31 rfl f5 (opC_length ..)) ?_
          refine wl_callf (xs := [_, _]) (cs := []) rfl rfl (sh4_do i12 _ (hS.same hw).1 ho (hK.below hw) (hV.below hw) rfl rfl hp hq) ?_
          rintro _ w54 ⟨rfl, e1, e2⟩
          have e3 := e2.after hw
          clear hw
          refine wl_p (fun _ => o_assign rfl) ?_
          refine wl_nil ?_
          refine ret1 rfl rfl ?_
          exact ⟨rfl, e1, e3⟩
      · have n1 : k ≠ 1 := by omega
        have n2 : k ≠ 2 := by omega
        by_cases hy : wr ∈ S.2.2
        · rw [if_pos ⟨hok, hx, fun _ => hy⟩]
          refine rk_false rfl ?_
          refine rk_skip ?_
          refine rk_seq ?_
          refine rk_seq ?_
          refine rk_draw (id := 4) (none) [0, 1, 2, 4, 8, 24, 40, 72, 136, 256, 768, 1280, 2304, 256, 12544, 16640, 33024] [0, 1, 3, 7, 15, 31, 63, 127, 255, 511, 1023, 2047, 4095, 511, 16383, 32767, 65535] 16384 0 [(.p, 0), (.r, 1), (.p, 2), (.p, 3), (.p, 4), (.r, 5), (.p, 6), (.p, 7), (.p, 8), (.p, 9), (.p, 10), (.p, 11), (.r, 12), (.r, 13), (.l, 14), (.p, 15), (.p, 16)] (by kernel_rfl) (by kernel_rfl) (by kernel_rfl) (by kernel_rfl) (by kernel_rfl) ?_
          replace hw := hw.drew
          replace f := f.d
          replace f4 := f4.d
          replace f5 := f5.d
          refine wl_p (fun _ => o_faddr (s := 31) (i := 0) (off := 0) Try.underlying31 rfl Try.sizeOf3 rfl rfl rfl) ?_
          refine wl_r (o_loadbg Try.isAgg3 rfl f5 (by rfl)) ?_
          refine wl_p (fun _ => o_ne rfl rfl) ?_
          refine wl_p (fun _ => o_move rfl) ?_
          refine wl_know 36 true rfl (decide_eq_true (by omega)) ?_
          refine wl_p (fun _ => o_faddr (s := 31) (i := 0) (off := 0) Try.underlying31 rfl Try.sizeOf3 rfl rfl rfl) ?_
          refine wl_r (o_loadbg Try.isAgg3 rfl f5 (by rfl)) ?_
          refine wl_p (fun _ => o_ne rfl rfl) ?_
          refine wl_p (fun _ => o_pick_t rfl rfl) ?_
          refine wl_p (fun _ => o_move rfl) ?_
          refine wl_know 41 true rfl (decide_eq_true (by omega)) ?_
          refine wl_p (fun _ => o_move rfl) ?_
          refine wl_p (fun _ => o_nil rfl) ?_
          refine wl_p (fun _ => o_faddr (s := 27) (i := 2) (off := 2) Try.underlying27 rfl Try.sizeOf25 rfl rfl rfl) ?_
          refine wl_r (o_loadbg Try.isAgg25 rfl (f0.u hw) (by rfl)) ?_
          refine wl_r (o_ldKyB rfl f4) ?_
          refine wl_call rfl (C_member _ (f3.u hw).to_RKs rfl (by omega)) ?_
          rintro v47 w47 ⟨rfl, b47⟩
          simp only [drew_size] at b47
          have s47 := b47.size
          simp only [drew_size] at s47
          replace hw := hw.trans (b47.mono hw.size)
          replace f5 := f5.u b47
          replace f4 := f4.u b47
          replace f := f.u b47
          refine wl_p (fun _ => o_not rfl) ?_
          refine wl_p (fun _ => o_pick_t rfl rfl) ?_
          refine wl_nild ?_
          rw [decide_eq_true hy]
          refine rk_false rfl ?_
          refine rk_skip ?_
          refine rk_seq ?_
          refine rk_region ?_
          refine wl_p (fun _ => o_faddr (s := 69) (i := 3) (off := 3) Try.underlying69 rfl Try.sizeOf67 rfl rfl rfl) ?_
          refine wl_r (o_loadbg Try.isAgg67 rfl f (by rfl)) ?_
          refine wl_p (fun _ => o_move rfl) ?_
          refine wl_r (o_loadag Try.isAgg31 Try.sizeOf31 rfl f5 (opC_length ..)) ?_
          refine wl_callf (xs := [_, _]) (cs := []) rfl rfl (sh4_do i12 _ (hS.same hw).1 ho (hK.below hw) (hV.below hw) rfl rfl hp hq) ?_
          rintro _ w54 ⟨rfl, e1, e2⟩
          have e3 := e2.after hw
          clear hw
          refine wl_p (fun _ => o_assign rfl) ?_
          refine wl_nil ?_
          refine ret1 rfl rfl ?_
          exact ⟨rfl, e1, e3⟩
        · rw [if_neg (fun h => hy (h.2.2 ⟨n1, n2⟩))]
          refine rk_false rfl ?_
          refine rk_skip ?_
          refine rk_seq ?_
          refine rk_seq ?_
          refine rk_draw (id := 4) (none) [0, 1, 2, 4, 8, 24, 40, 72, 136, 256, 768, 1280, 2304, 256, 12544, 16640, 33024] [0, 1, 3, 7, 15, 31, 63, 127, 255, 511, 1023, 2047, 4095, 511, 16383, 32767, 65535] 16384 0 [(.p, 0), (.r, 1), (.p, 2), (.p, 3), (.p, 4), (.r, 5), (.p, 6), (.p, 7), (.p, 8), (.p, 9), (.p, 10), (.p, 11), (.r, 12), (.r, 13), (.l, 14), (.p, 15), (.p, 16)] (by kernel_rfl) (by kernel_rfl) (by kernel_rfl) (by kernel_rfl) (by kernel_rfl) ?_
          replace hw := hw.drew
          replace f := f.d
          replace f4 := f4.d
          replace f5 := f5.d
          refine wl_p (fun _ => o_faddr (s := 31) (i := 0) (off := 0) Try.underlying31 rfl Try.sizeOf3 rfl rfl rfl) ?_
          refine wl_r (o_loadbg Try.isAgg3 rfl f5 (by rfl)) ?_
          refine wl_p (fun _ => o_ne rfl rfl) ?_
          refine wl_p (fun _ => o_move rfl) ?_
          refine wl_know 36 true rfl (decide_eq_true (by omega)) ?_
          refine wl_p (fun _ => o_faddr (s := 31) (i := 0) (off := 0) Try.underlying31 rfl Try.sizeOf3 rfl rfl rfl) ?_
          refine wl_r (o_loadbg Try.isAgg3 rfl f5 (by rfl)) ?_
          refine wl_p (fun _ => o_ne rfl rfl) ?_
          refine wl_p (fun _ => o_pick_t rfl rfl) ?_
          refine wl_p (fun _ => o_move rfl) ?_
          refine wl_know 41 true rfl (decide_eq_true (by omega)) ?_
          refine wl_p (fun _ => o_move rfl) ?_
          refine wl_p (fun _ => o_nil rfl) ?_
          refine wl_p (fun _ => o_faddr (s := 27) (i := 2) (off := 2) Try.underlying27 rfl Try.sizeOf25 rfl rfl rfl) ?_
          refine wl_r (o_loadbg Try.isAgg25 rfl (f0.u hw) (by rfl)) ?_
          refine wl_r (o_ldKyB rfl f4) ?_
          refine wl_call rfl (C_member _ (f3.u hw).to_RKs rfl (by omega)) ?_
          rintro v47 w47 ⟨rfl, b47⟩
          simp only [drew_size] at b47
          have s47 := b47.size
          simp only [drew_size] at s47
          replace hw := hw.trans (b47.mono hw.size)
          replace f5 := f5.u b47
          replace f4 := f4.u b47
          replace f := f.u b47
          refine wl_p (fun _ => o_not rfl) ?_
          refine wl_p (fun _ => o_pick_t rfl rfl) ?_
          refine wl_nild ?_
          rw [decide_eq_false hy]
          refine rk_true rfl ?_
          refine rk_seq ?_
          refine rk_region ?_
          refine wl_p (fun _ => o_assign rfl) ?_
          refine wl_nil ?_
          refine ret1 rfl rfl ?_
          exact ⟨rfl, hS.same hw⟩
    · rw [if_neg (fun h => hx h.2.1)]
      refine wl_p (fun _ => o_not rfl) ?_
      refine wl_p (fun _ => o_pick_f rfl rfl) ?_
      refine wl_p (fun _ => o_move rfl) ?_
      refine wl_p (fun _ => o_move rfl) ?_
      refine wl_p (fun _ => o_nil rfl) ?_
      refine wl_p (fun _ => o_faddr (s := 27) (i := 1) (off := 1) Try.underlying27 rfl Try.sizeOf25 rfl rfl rfl) ?_
      refine wl_r (o_loadbg Try.isAgg25 rfl (f0.u hw) (by rfl)) ?_
      refine wl_r (o_ldKyB rfl f4) ?_
      refine wl_call rfl (C_member _ (f2.u hw).to_RKs rfl (by omega)) ?_
      rintro v30 w30 ⟨rfl, b30⟩
      have s30 := b30.size
      replace hw := hw.trans (b30.mono hw.size)
      replace f5 := f5.u b30
      replace f4 := f4.u b30
      replace f := f.u b30
      refine wl_p (fun _ => o_not rfl) ?_
      refine wl_p (fun _ => o_pick_f rfl rfl) ?_
      refine wl_nild ?_
      rw [decide_eq_false hx]
      refine rk_true rfl ?_
      refine rk_seq ?_
      refine rk_region ?_
      refine wl_p (fun _ => o_assign rfl) ?_
      refine wl_nil ?_
      refine ret1 rfl rfl ?_
      exact ⟨rfl, hS.same hw⟩
  · have hk1 : k < 1 ∨ 6 < k := by omega
    rw [if_neg (fun h => by have := okOp_of h.1; omega)]
    refine rk_seq ?_
    refine rk_region ?_
    refine wl_boxg _ rfl (by rfl) ?_
    rintro g4 w4 f4 b4 i4 i4_1
    have s4 := b4.size
    replace hw := hw.trans (b4.mono hw.size)
    refine wl_boxg _ rfl (by rfl) ?_
    rintro g5 w5 f5 b5 i5 i5_1
    have s5 := b5.size
    replace hw := hw.trans (b5.mono hw.size)
    replace f4 := f4.u b5
    refine wl_p (fun _ => o_assign rfl) ?_
    refine wl_nil ?_
    refine rk_seq ?_
    refine rk_region ?_
    refine wl_p (fun _ => o_faddr (s := 31) (i := 0) (off := 0) Try.underlying31 rfl Try.sizeOf3 rfl rfl rfl) ?_
    refine wl_r (o_loadbg Try.isAgg3 rfl f5 (by rfl)) ?_
    refine wl_call rfl (C_formBad _ (by omega)) ?_
    rintro v12 w12 ⟨rfl, b12⟩
    have s12 := b12.size
    replace hw := hw.trans (b12.mono hw.size)
    replace f4 := f4.u b12
    replace f5 := f5.u b12
    refine wl_p (fun _ => o_move rfl) ?_
    refine wl_p (fun _ => o_ext20 rfl) ?_
    refine wl_p (fun _ => o_ext21 rfl) ?_
    refine wl_allocg [_, _, _, _] Try.zeroValue69 (by rfl) ?_
    rintro g7 w7 f7 b7 i7 i7_1
    have s7 := b7.size
    replace hw := hw.trans (b7.mono hw.size)
    replace f5 := f5.u b7
    replace f4 := f4.u b7
    refine wl_storega Try.sizeOf69 rfl rfl (by rfl) (by decide) f7 (by rfl) ?_
    rintro w_1 f g_1 e
    have s := g_1.size
    replace hw := hw.trans (below_of_grownBy g_1.g hw.size (by omega))
    replace f4 := f4.k g_1.g (ap_some (by omega))
    replace f5 := f5.k g_1.g (ap_some (by omega))
    clear f7
    refine wl_p (fun _ => o_assign rfl) ?_
    refine wl_nil ?_
    refine rk_seq ?_
    refine rk_seq ?_
    refine rk_draw (id := 2) (none) [0, 1, 2, 4, 12, 4, 52, 68, 132, 320, 512, 1536, 2560, 4608, 512, 25088, 33280, 66048] [0, 1, 3, 7, 15, 7, 63, 127, 255, 511, 1023, 2047, 4095, 8191, 1023, 32767, 65535, 131071] 32832 0 [(.p, 0), (.p, 1), (.p, 2), (.p, 3), (.r, 4), (.r, 5), (.l, 6), (.p, 7), (.p, 8), (.p, 9), (.p, 10), (.p, 11), (.p, 12), (.r, 13), (.r, 14), (.l, 15), (.p, 16), (.p, 17)] (by kernel_rfl) (by kernel_rfl) (by kernel_rfl) (by kernel_rfl) (by kernel_rfl) ?_
    replace hw := hw.drew
    replace f5 := f5.d
    replace f4 := f4.d
    replace f := f.d
    refine wl_p (fun _ => o_move rfl) ?_
    refine wl_p (fun _ => o_not rfl) ?_
    refine wl_p (fun _ => o_move rfl) ?_
    refine wl_off ?_
    refine wl_off ?_
    refine wl_off ?_
    refine wl_off ?_
    refine wl_off ?_
    refine wl_p (fun _ => o_pick_t rfl rfl) ?_
    refine wl_p (fun _ => o_move rfl) ?_
    refine wl_off ?_
    refine wl_off ?_
    refine wl_off ?_
    refine wl_off ?_
    refine wl_off ?_
    refine wl_off ?_
    refine wl_off ?_
    refine wl_p (fun _ => o_pick_t rfl rfl) ?_
    refine wl_nild ?_
    refine rk_true rfl ?_
    refine rk_seq ?_
    refine rk_region ?_
    refine wl_p (fun _ => o_assign rfl) ?_
    refine wl_nil ?_
    refine ret1 rfl rfl ?_
    exact ⟨rfl, hS.same hw⟩
/-- An op of a writer, done to any state. -/
def stepS (S : Stt) (wr : Ky) (o : Opn) : Stt × Bool := if OkSt S.1 S.2.1 S.2.2 then stS S wr o else (S, false)
theorem OkSt.ok {S : Stt} (h : OkSt S.1 S.2.1 S.2.2) : StOk S := by
  obtain ⟨⟨h1, h2⟩, ⟨h3, h4⟩, h5, h6, h7⟩ := h
  exact ⟨h5, h6, h7, by omega, by omega, by omega⟩
theorem C_opsStep {A B C K V : Option Addr} {S : Stt} {r : Stt × Bool} {p q : By} {n c n2 c2 n3 c3 mk md : Nat} {ck cv : Nat} {k : Int} {u wr : Ky} (w : World) (hA : RI w A S.1) (hB : RKs w B S.2.1) (hC : RKs w C S.2.2) (hK : Rd w K p) (hV : Rd w V q) (hr : stepS S wr (k, p, q, u) = r) (hn : n = S.1.length) (hn2 : n2 = S.2.1.length) (hn3 : n3 = S.2.2.length) (hmk : mk = p.length) (hmd : md = q.length) (hl : S.1.length ≤ 400000) (hl2 : S.2.1.length ≤ 400000) (hl3 : S.2.2.length ≤ 400000) (hL : LtI S.1) (hp : p.length ≤ 4000000) (hq : q.length ≤ 4000000) :
    CallsR Try.prog 14 [.agg #[.slice A n c, .slice B n2 c2, .slice C n3 c3], .agg (B8 wr.1).toArray, .agg (opC k K mk ck V md cv u).toArray] w fun v w' => ∃ A' c' B' d' C' e', v = .tuple #[.agg #[.slice A' r.1.1.length c', .slice B' r.1.2.1.length d', .slice C' r.1.2.2.length e'], .bool r.2] ∧ OwnI w' w.heap.size w'.heap.size A' c' r.1.1 ∧ OwnKs w' w.heap.size w'.heap.size B' d' r.1.2.1 ∧ OwnKs w' w.heap.size w'.heap.size C' e' r.1.2.2 ∧ Below w.heap.size w w' := by
  subst hn; subst hn2; subst hn3; subst hmk; subst hmd
  unfold stepS at hr
  refine callsR Try.func14 rfl rfl (by kernel_rfl) rfl ?_
  have hw := Below.refl w.heap.size w
  by_cases h1 : OkSt S.1 S.2.1 S.2.2
  · rw [if_pos h1] at hr
    refine rk_seq ?_
    refine rk_region ?_
    refine wl_boxg [_, _, _] rfl (by rfl) ?_
    rintro g3 w3 f3 b3 i3 i3_1
    have s3 := b3.size
    replace hw := hw.trans (b3.mono hw.size)
    refine wl_boxg _ rfl (by rfl) ?_
    rintro g4 w4 f4 b4 i4 i4_1
    have s4 := b4.size
    replace hw := hw.trans (b4.mono hw.size)
    replace f3 := f3.u b4
    refine wl_boxg _ rfl (by rfl) ?_
    rintro g5 w5 f5 b5 i5 i5_1
    have s5 := b5.size
    replace hw := hw.trans (b5.mono hw.size)
    replace f3 := f3.u b5
    replace f4 := f4.u b5
    refine wl_allocg [_, _, _] Try.zeroValue27 (by rfl) ?_
    rintro g6 w6 f6 b6 i6 i6_1
    have s6 := b6.size
    replace hw := hw.trans (b6.mono hw.size)
    replace f4 := f4.u b6
    replace f3 := f3.u b6
    replace f5 := f5.u b6
    refine wl_p (fun _ => o_assign rfl) ?_
    refine wl_nil ?_
    refine rk_seq ?_
    refine rk_region ?_
    refine wl_r (o_loadag Try.isAgg27 Try.sizeOf27 rfl f3 (by rfl)) ?_
    refine wl_call rfl (C_clone _ (hA.u hw) (hB.u hw) (hC.u hw) rfl rfl rfl (by omega) (by omega) (by omega) (by omega)) ?_
    rintro v10 w10 ⟨A10, ⟨c10, ⟨B10, ⟨d10, ⟨C10, ⟨e10, ⟨m110, ⟨m210, ⟨rfl, ⟨f10, ⟨f10_1, ⟨f10_2, ⟨i10, ⟨i10_1, ⟨i10_2, b10⟩⟩⟩⟩⟩⟩⟩⟩⟩⟩⟩⟩⟩⟩⟩
    have qf10 := f10.cap
    have qf10_1 := f10_1.cap
    have qf10_2 := f10_2.cap
    have s10 := b10.size
    replace hw := hw.trans (b10.mono hw.size)
    replace f5 := f5.u b10
    replace f3 := f3.u b10
    replace f4 := f4.u b10
    replace f6 := f6.u b10
    refine wl_storega Try.sizeOf27 rfl rfl (by rfl) (oneCell_of (by rfl)) f3 (by rfl) ?_
    rintro w_1 f g e
    have s := g.size
    replace hw := hw.trans (below_of_grownBy g.g hw.size (by omega))
    replace f6 := f6.k g.g (ap_some (by omega))
    replace f4 := f4.k g.g (ap_some (by omega))
    replace f5 := f5.k g.g (ap_some (by omega))
    replace f10_2 := f10_2.y g (by decide)
    replace f10_1 := f10_1.y g (by decide)
    replace f10 := f10.y g (by decide)
    clear f3
    refine wl_nil ?_
    refine rk_seq ?_
    refine rk_seq ?_
    refine rk_region ?_
    refine wl_r (o_loadag Try.isAgg27 Try.sizeOf27 rfl f (by rfl)) ?_
    refine wl_call rfl (C_checkStateOk _ f10.to_RI f10_1.to_RKs f10_2.to_RKs rfl rfl rfl (by omega) (by omega) (by omega) (by omega) (by omega)) ?_
    rintro v12 w12 ⟨rfl, b12⟩
    have s12 := b12.size
    replace hw := hw.trans (b12.mono hw.size)
    replace f10 := f10.u b12
    replace f10_1 := f10_1.u b12
    replace f10_2 := f10_2.u b12
    replace f5 := f5.u b12
    replace f4 := f4.u b12
    replace f6 := f6.u b12
    replace f := f.u b12
    refine wl_p (fun _ => o_ne rfl rfl) ?_
    refine wl_nil ?_
    refine rk_false rfl ?_
    refine rk_skip ?_
    refine rk_seq ?_
    refine rk_region ?_
    refine wl_r (o_ldKyB rfl f4) ?_
    refine wl_r (o_loadag Try.isAgg31 Try.sizeOf31 rfl f5 (opC_length ..)) ?_
    have hS : StAt w12 w6.heap.size g3 S := ⟨A10, c10, B10, d10, C10, e10, f, f10.base (Nat.le_refl _) (by omega), f10_1.base (by omega) (by omega), f10_2.base (by omega) (by omega), fun k hk e => by
      have x1 := (f10_1.rng k hk).2
      have x2 := (f10_2.rng k e).1
      omega, by omega⟩
    refine wl_call rfl (K_step w12 hS h1.ok (hK.below hw) (hV.below hw) rfl rfl hp hq) ?_
    rintro _ w17 ⟨rfl, e1, e2⟩
    rw [hr] at e1 ⊢
    obtain ⟨A1, a1, A2, a2, A3, a3, z0, z1, z2, z3, z4, z5⟩ := e1.ex
    obtain ⟨x1, x2, r1, r2, y1, y2, y3, t1, t2⟩ := e2.ex
    have s1 := y1.size
    have s2 := y2.size
    have s3 := y3.size
    have hws := hw.size
    have f6b := ((f6.y y1 (by decide)).y y2 (by decide)).k y3.g (ap_some (lo := g6) (hi := g6 + 1) (by omega))
    have hw2 : Below w.heap.size w w17 := hw.trans (((y1.below hws (fun k hk => by have := t1 k hk; omega)).trans (y2.below (by omega) (fun k hk => by have := t2 k hk; omega))).trans (y3.below (by omega) (fun k hk => by injection hk with hk; omega)))
    clear hw f f10 f10_1 f10_2 f5 f4 f6 hS e1 e2
    have hw := hw2
    refine wl_p (fun _ => o_assign rfl) ?_
    refine wl_nil ?_
    refine rk_seq ?_
    refine rk_region ?_
    refine wl_r (o_loadag Try.isAgg27 Try.sizeOf27 rfl z0 (by rfl)) ?_
    refine wl_p (fun _ => o_move rfl) ?_
    refine wl_storega Try.sizeOf27 rfl rfl (by rfl) (oneCell_of (by rfl)) f6b (by rfl) ?_
    rintro w_2 f g_1 e_1
    have s_1 := g_1.size
    replace hw2 := hw2.trans (below_of_grownBy g_1.g hw2.size (by omega))
    replace hw := hw.trans (below_of_grownBy g_1.g hw.size (by omega))
    replace z3 := z3.y g_1 (by decide)
    replace z2 := z2.y g_1 (by decide)
    replace z1 := z1.y g_1 (by decide)
    replace z0 := z0.k g_1.g (ap_some (by omega))
    clear f6b
    refine wl_p (fun _ => o_assign rfl) ?_
    refine wl_nil ?_
    refine ret_any rfl (.cell rfl Try.isAgg27 Try.sizeOf27 (by assumption) rfl <| .tmp rfl <| .nil) (by simp) ?_
    exact ⟨A1, a1, A2, a2, A3, a3, rfl, z1.base (by omega) (by omega), z2.base (by omega) (by omega), z3.base (by omega) (by omega), hw⟩
  · rw [if_neg h1] at hr
    subst hr
    refine rk_seq ?_
    refine rk_region ?_
    refine wl_boxg [_, _, _] rfl (by rfl) ?_
    rintro g3 w3 f3 b3 i3 i3_1
    have s3 := b3.size
    replace hw := hw.trans (b3.mono hw.size)
    refine wl_boxg _ rfl (by rfl) ?_
    rintro g4 w4 f4 b4 i4 i4_1
    have s4 := b4.size
    replace hw := hw.trans (b4.mono hw.size)
    replace f3 := f3.u b4
    refine wl_boxg _ rfl (by rfl) ?_
    rintro g5 w5 f5 b5 i5 i5_1
    have s5 := b5.size
    replace hw := hw.trans (b5.mono hw.size)
    replace f3 := f3.u b5
    replace f4 := f4.u b5
    refine wl_allocg [_, _, _] Try.zeroValue27 (by rfl) ?_
    rintro g6 w6 f6 b6 i6 i6_1
    have s6 := b6.size
    replace hw := hw.trans (b6.mono hw.size)
    replace f4 := f4.u b6
    replace f3 := f3.u b6
    replace f5 := f5.u b6
    refine wl_p (fun _ => o_assign rfl) ?_
    refine wl_nil ?_
    refine rk_seq ?_
    refine rk_region ?_
    refine wl_r (o_loadag Try.isAgg27 Try.sizeOf27 rfl f3 (by rfl)) ?_
    refine wl_call rfl (C_clone _ (hA.u hw) (hB.u hw) (hC.u hw) rfl rfl rfl (by omega) (by omega) (by omega) (by omega)) ?_
    rintro v10 w10 ⟨A10, ⟨c10, ⟨B10, ⟨d10, ⟨C10, ⟨e10, ⟨m110, ⟨m210, ⟨rfl, ⟨f10, ⟨f10_1, ⟨f10_2, ⟨i10, ⟨i10_1, ⟨i10_2, b10⟩⟩⟩⟩⟩⟩⟩⟩⟩⟩⟩⟩⟩⟩⟩
    have qf10 := f10.cap
    have qf10_1 := f10_1.cap
    have qf10_2 := f10_2.cap
    have s10 := b10.size
    replace hw := hw.trans (b10.mono hw.size)
    replace f5 := f5.u b10
    replace f3 := f3.u b10
    replace f4 := f4.u b10
    replace f6 := f6.u b10
    refine wl_storega Try.sizeOf27 rfl rfl (by rfl) (oneCell_of (by rfl)) f3 (by rfl) ?_
    rintro w_1 f g e
    have s := g.size
    replace hw := hw.trans (below_of_grownBy g.g hw.size (by omega))
    replace f6 := f6.k g.g (ap_some (by omega))
    replace f4 := f4.k g.g (ap_some (by omega))
    replace f5 := f5.k g.g (ap_some (by omega))
    replace f10_2 := f10_2.y g (by decide)
    replace f10_1 := f10_1.y g (by decide)
    replace f10 := f10.y g (by decide)
    clear f3
    refine wl_nil ?_
    refine rk_seq ?_
    refine rk_seq ?_
    refine rk_region ?_
    refine wl_r (o_loadag Try.isAgg27 Try.sizeOf27 rfl f (by rfl)) ?_
    refine wl_call rfl (C_checkStateBad _ f10.to_RI f10_1.to_RKs f10_2.to_RKs rfl rfl rfl (by omega) (by omega) (by omega) (by omega) (by omega)) ?_
    rintro v12 w12 ⟨rfl, b12⟩
    have s12 := b12.size
    replace hw := hw.trans (b12.mono hw.size)
    replace f10 := f10.u b12
    replace f10_1 := f10_1.u b12
    replace f10_2 := f10_2.u b12
    replace f5 := f5.u b12
    replace f4 := f4.u b12
    replace f6 := f6.u b12
    replace f := f.u b12
    refine wl_p (fun _ => o_ne rfl rfl) ?_
    refine wl_nil ?_
    refine rk_true rfl ?_
    refine rk_seq ?_
    refine rk_region ?_
    refine wl_r (o_loadag Try.isAgg27 Try.sizeOf27 rfl f (by rfl)) ?_
    refine wl_storega Try.sizeOf27 rfl rfl (by rfl) (oneCell_of (by rfl)) f6 (by rfl) ?_
    rintro w_2 f_1 g_1 e_1
    have s_1 := g_1.size
    replace hw := hw.trans (below_of_grownBy g_1.g hw.size (by omega))
    replace f := f.k g_1.g (ap_some (by omega))
    replace f4 := f4.k g_1.g (ap_some (by omega))
    replace f5 := f5.k g_1.g (ap_some (by omega))
    replace f10_2 := f10_2.y g_1 (by decide)
    replace f10_1 := f10_1.y g_1 (by decide)
    replace f10 := f10.y g_1 (by decide)
    clear f6
    refine wl_p (fun _ => o_assign rfl) ?_
    refine wl_nil ?_
    refine ret_any rfl (.cell rfl Try.isAgg27 Try.sizeOf27 (by assumption) rfl <| .tmp rfl <| .nil) (by simp) ?_
    exact ⟨A10, c10, B10, d10, C10, e10, rfl, f10.base (by omega) (by omega), f10_1.base (by omega) (by omega), f10_2.base (by omega) (by omega), hw⟩
end Go.Proofs.Ytahkeoegbjopfaa
/-
  The chapter's examples.
-/
namespace Go.Proofs.Ytahkeoegbjopfaa
open Go.RowKit
section
variable {P : Program} {fn : Func} {F : Ending → World → Prop} {N : Nat} {ks : List K} {ops : Array Oper} {tg : Tags} {l : List Oper} {fr : Fr} {w : World} {ty src dst : TypeId} {pos : String} {aft : Array Edge} {gd : Option (Nat × Bool)} {d : Nat} {x : Operand} {p : By}
--@ rule convert l wl_cvS
/-- []byte(s) -/
theorem wl_cvS (hs : P.underlying src = some .string) (hds : P.underlying dst = some (.slice 5)) (he : P.underlying 5 = some (.int .u8)) (hx : fr.ev x = some (.string ⟨p.toArray⟩)) (hl : p.length ≤ 1000000)
    (hk : ∀ A c w', RdT w' A p → p.length ≤ c → c ≤ maxLen → Below w.heap.size w w' → WL P fn F N ks ops tg.tail l ((d, .slice A p.length c) :: fr) w')
    (ht : tg.loud = true := by rfl) (hg : onG ops fr gd = true := by rfl) (hd : Nat.blt d N = true := by rfl) : WL P fn F N ks ops tg (⟨some d, .convert src dst x, ty, pos, aft, gd⟩ :: l) fr w := by
  have hsz : (⟨p.toArray⟩ : ByteArray).size = p.length := rfl
  have hrun := run_bytes_of_string (P := P) w src dst 5 ⟨p.toArray⟩ hs hds he
  rw [hsz] at hrun
  have hge := grownCap_ge w p.length 0 5
  have hcm : grownCap w p.length 0 5 ≤ maxLen := grownCap_le_maxLen w p.length 0 5 (by simp only [maxLen]; omega)
  generalize hq : grownCap w p.length 0 5 = cq at *
  generalize hf : ((bytesRow ⟨p.toArray⟩ cq).size, (bytesRow ⟨p.toArray⟩ cq).size + 1) = fq at *
  have hbl : Below w.heap.size w (w.drew.alloc (.cells (bytesRow ⟨p.toArray⟩ cq) 5 fq)) := ((Below.refl w.heap.size w).drew.alloc (Nat.le_refl _) _)
  refine wl_v (fun a ha o ho _ => by simp [execOp, ho, ha.ev hx, hrun]) (hk _ _ _ ⟨⟨by rw [B8_length, Nat.mul_one], fun _ => ⟨w.heap.size, 0, rfl, fun j v hj => ?_⟩⟩, fun k hk => ?_⟩ hge hcm hbl) ht hg hd (.inr (grown_of_below hbl _))
  · have h0 : (w.drew.alloc (.cells (bytesRow ⟨p.toArray⟩ cq) 5 fq)).cell? ⟨w.heap.size, j, none⟩ = (bytesRow ⟨p.toArray⟩ cq)[j]? := World.cell?_alloc_mark w.drew _ 5 fq j
    rw [Nat.zero_add, h0]
    have hjl : j < p.length := by
      rcases Nat.lt_or_ge j p.length with h | h
      · exact h
      · rw [List.getElem?_eq_none (by rw [B8_length]; exact h)] at hj; cases hj
    rw [bytesRow_at _ _ _ (by simpa using hjl)]
    rw [B8_get p j hjl] at hj
    simpa using hj
  · obtain rfl : w.heap.size = k := by simpa [blk] using hk
    exact ⟨bytesRow ⟨p.toArray⟩ cq, fq, by show (w.heap.push _)[w.heap.size]? = _; simp⟩
end
def kA : Ky := ⟨1 :: List.replicate 31 0, rfl⟩
def kB : Ky := ⟨2 :: List.replicate 31 0, rfl⟩
theorem C_a (w : World) : CallsR Try.prog 20 [] w fun v w' => v = .agg (B8 kA.1).toArray ∧ Below w.heap.size w w' := by
  refine callsR Try.func20 rfl rfl (by kernel_rfl) rfl ?_
  have hw := Below.refl w.heap.size w
  refine rk_seq ?_
  refine rk_region ?_
  refine wl_allocg [_, _, _, _, _, _, _, _, _, _, _, _, _, _, _, _, _, _, _, _, _, _, _, _, _, _, _, _, _, _, _, _] Try.zeroValue29 (by rfl) ?_
  rintro g0 w0 f0 b0 i0 i0_1
  have s0 := b0.size
  replace hw := hw.trans (b0.mono hw.size)
  refine wl_nil ?_
  refine rk_seq ?_
  refine rk_region ?_
  refine wl_p (fun _ => (o_buildga [_, _, _, _, _, _, _, _, _, _, _, _, _, _, _, _, _, _, _, _, _, _, _, _, _, _, _, _, _, _, _, _] Try.underlying29 Try.sizeOf5 Try.zeroValue29 (by rfl) (by rfl) rfl (by rfl) (by rfl) (fun _ => by kernel_rfl))) ?_
  refine wl_storega Try.sizeOf29 rfl rfl (by rfl) (by decide) f0 (by rfl) ?_
  rintro w_1 f g e
  have s := g.size
  replace hw := hw.trans (below_of_grownBy g.g hw.size (by omega))
  clear f0
  refine wl_nil ?_
  refine ret_cell rfl rfl Try.isAgg29 Try.sizeOf29 (by assumption) rfl ?_
  exact ⟨rfl, hw⟩
theorem C_b (w : World) : CallsR Try.prog 21 [] w fun v w' => v = .agg (B8 kB.1).toArray ∧ Below w.heap.size w w' := by
  refine callsR Try.func21 rfl rfl (by kernel_rfl) rfl ?_
  have hw := Below.refl w.heap.size w
  refine rk_seq ?_
  refine rk_region ?_
  refine wl_allocg [_, _, _, _, _, _, _, _, _, _, _, _, _, _, _, _, _, _, _, _, _, _, _, _, _, _, _, _, _, _, _, _] Try.zeroValue29 (by rfl) ?_
  rintro g0 w0 f0 b0 i0 i0_1
  have s0 := b0.size
  replace hw := hw.trans (b0.mono hw.size)
  refine wl_nil ?_
  refine rk_seq ?_
  refine rk_region ?_
  refine wl_p (fun _ => (o_buildga [_, _, _, _, _, _, _, _, _, _, _, _, _, _, _, _, _, _, _, _, _, _, _, _, _, _, _, _, _, _, _, _] Try.underlying29 Try.sizeOf5 Try.zeroValue29 (by rfl) (by rfl) rfl (by rfl) (by rfl) (fun _ => by kernel_rfl))) ?_
  refine wl_storega Try.sizeOf29 rfl rfl (by rfl) (by decide) f0 (by rfl) ?_
  rintro w_1 f g e
  have s := g.size
  replace hw := hw.trans (below_of_grownBy g.g hw.size (by omega))
  clear f0
  refine wl_nil ?_
  refine ret_cell rfl rfl Try.isAgg29 Try.sizeOf29 (by assumption) rfl ?_
  exact ⟨rfl, hw⟩
theorem C_alone (w : World) : CallsR Try.prog 19 [] w fun v w' => ∃ B C, v = .agg #[.slice none 0 0, .slice B 1 1, .slice C 1 1] ∧ RKT w' B [kA] ∧ RKT w' C [kA] ∧ Below w.heap.size w w' := by
  refine callsR Try.func19 rfl rfl (by kernel_rfl) rfl ?_
  have hw := Below.refl w.heap.size w
  refine rk_seq ?_
  refine rk_region ?_
  refine wl_allocg [_, _, _] Try.zeroValue27 (by rfl) ?_
  rintro g0 w0 f0 b0 i0 i0_1
  have s0 := b0.size
  replace hw := hw.trans (b0.mono hw.size)
  refine wl_nil ?_
  refine rk_seq ?_
  refine rk_region ?_
  refine wl_call rfl (C_a _) ?_
  rintro v1 w1 ⟨rfl, b1⟩
  have s1 := b1.size
  replace hw := hw.trans (b1.mono hw.size)
  replace f0 := f0.u b1
  refine wl_litKs1 (by rfl) rfl (by rfl) ?_
  rintro A2 w2 f2 b2
  have qf2 := f2.cap
  have s2 := b2.size
  replace hw := hw.trans (b2.mono hw.size)
  replace f0 := f0.u b2
  refine wl_call rfl (C_a _) ?_
  rintro v3 w3 ⟨rfl, b3⟩
  have s3 := b3.size
  replace hw := hw.trans (b3.mono hw.size)
  replace f0 := f0.u b3
  replace f2 := f2.u b3
  refine wl_litKs1 (by rfl) rfl (by rfl) ?_
  rintro A4 w4 f4 b4
  have qf4 := f4.cap
  have s4 := b4.size
  replace hw := hw.trans (b4.mono hw.size)
  replace f2 := f2.u b4
  replace f0 := f0.u b4
  refine wl_p (fun _ => (o_buildg [_, _, _] Try.underlying27 Try.zeroValue27 (by rfl) (by rfl) rfl (by rfl) (by rfl) (fun _ => by kernel_rfl))) ?_
  refine wl_storega Try.sizeOf27 rfl rfl (by rfl) (oneCell_of (by rfl)) f0 (by rfl) ?_
  rintro w_1 f g e
  have s := g.size
  replace hw := hw.trans (below_of_grownBy g.g hw.size (by omega))
  replace f2 := f2.y g (by decide)
  replace f4 := f4.y g (by decide)
  clear f0
  refine wl_nil ?_
  refine ret_cell rfl rfl Try.isAgg27 Try.sizeOf27 (by assumption) rfl ?_
  exact ⟨A2, A4, rfl, f2.to_RKT, f4.to_RKT, hw⟩
theorem C_put {p q : By} (w : World) (hp : p.length ≤ 1000) (hq : q.length ≤ 1000) : CallsR Try.prog 22 [.string ⟨p.toArray⟩, .string ⟨q.toArray⟩] w fun v w' => ∃ K c V d, v = .agg (opC 1 K p.length c V q.length d z32).toArray ∧ RdT w' K p ∧ p.length ≤ c ∧ c ≤ maxLen ∧ RdT w' V q ∧ q.length ≤ d ∧ d ≤ maxLen ∧ Below w.heap.size w w' := by
  refine callsR Try.func22 rfl rfl (by kernel_rfl) rfl ?_
  have hw := Below.refl w.heap.size w
  refine rk_seq ?_
  refine rk_region ?_
  refine wl_allocOp ?_
  rintro g4 w4 f4 b4 i4 i4_1
  have s4 := b4.size
  replace hw := hw.trans (b4.mono hw.size)
  refine wl_nil ?_
  refine rk_seq ?_
  refine rk_region ?_
  refine wl_p (fun _ => o_move rfl) ?_
  refine wl_cvS Try.underlying9 Try.underlying23 Try.underlying5 rfl (by omega) ?_
  rintro A6 c6 w6 f6 i6 i6_1 b6
  have s6 := b6.size
  replace hw := hw.trans (b6.mono hw.size)
  replace f4 := f4.u b6
  refine wl_p (fun _ => o_move rfl) ?_
  refine wl_cvS Try.underlying9 Try.underlying23 Try.underlying5 rfl (by omega) ?_
  rintro A8 c8 w8 f8 i8 i8_1 b8
  have s8 := b8.size
  replace hw := hw.trans (b8.mono hw.size)
  replace f4 := f4.u b8
  replace f6 := f6.u b8
  refine wl_p (fun _ => (o_bldOp012 rfl rfl rfl)) ?_
  refine wl_stOpB rfl f4 rfl ?_
  rintro w_1 f g e
  have s := g.size
  replace hw := hw.trans (below_of_grownBy g.g hw.size (by omega))
  replace f6 := f6.y g (by decide)
  replace f8 := f8.y g (by decide)
  clear f4
  refine wl_nil ?_
  refine ret_cell rfl rfl Try.isAgg31 Try.sizeOf31 f (opC_length ..) ?_
  exact ⟨A6, c6, A8, c8, rfl, f6, by assumption, by assumption, f8, by assumption, by assumption, hw⟩
--@ side RI.nil_
--@ side (by simp [LtI])
--@ side (by simp)
structure StepR (I : List (By × By)) (X Y : List Ky) (wr : Ky) (k : Int) (p q : By) (u : Ky) (I' : List (By × By)) (X' Y' : List Ky) (b : Bool) : Prop where
  h : stepS (I, X, Y) wr (k, p, q, u) = ((I', X', Y'), b)
structure GetR (I : List (By × By)) (X Y : List Ky) (p : By) (v : By) (b : Bool) : Prop where
  h : getS I X Y p = (v, b)
theorem C_opsStepN {A B C K V : Option Addr} {I I' : List (By × By)} {X Y X' Y' : List Ky} {bo : Bool} {p q : By} {n c n2 c2 n3 c3 mk md ck cv : Nat} {k : Int} {u wr : Ky} (w : World) (hr : StepR I X Y wr k p q u I' X' Y' bo) (hA : RI w A I) (hB : RKs w B X) (hC : RKs w C Y) (hK : Rd w K p) (hV : Rd w V q) (hn : n = I.length) (hn2 : n2 = X.length) (hn3 : n3 = Y.length) (hmk : mk = p.length) (hmd : md = q.length) (hl : I.length ≤ 400000) (hl2 : X.length ≤ 400000) (hl3 : Y.length ≤ 400000) (hL : LtI I) (hp : p.length ≤ 4000000) (hq : q.length ≤ 4000000) :
    CallsR Try.prog 14 [.agg #[.slice A n c, .slice B n2 c2, .slice C n3 c3], .agg (B8 wr.1).toArray, .agg (opC k K mk ck V md cv u).toArray] w fun v w' => ∃ A' c' B' d' C' e', v = .tuple #[.agg #[.slice A' I'.length c', .slice B' X'.length d', .slice C' Y'.length e'], .bool bo] ∧ OwnI w' w.heap.size w'.heap.size A' c' I' ∧ OwnKs w' w.heap.size w'.heap.size B' d' X' ∧ OwnKs w' w.heap.size w'.heap.size C' e' Y' ∧ Below w.heap.size w w' :=
  C_opsStep (S := (I, X, Y)) w hA hB hC hK hV hr.h hn hn2 hn3 hmk hmd hl hl2 hl3 hL hp hq
theorem C_getN {A B C P : Option Addr} {I : List (By × By)} {X Y : List Ky} {p v : By} {bo : Bool} {n c m d q e z f : Nat} (w : World) (hr : GetR I X Y p v bo) (hA : RI w A I) (hB : RKs w B X) (hC : RKs w C Y) (hP : Rd w P p) (hn : n = I.length) (hm : m = X.length) (hq : q = Y.length) (hz : z = p.length) (hl : I.length ≤ 400000) (hl2 : X.length ≤ 400000) (hl3 : Y.length ≤ 400000) (hL : LtI I) (hp : p.length ≤ 4000000) :
    CallsR Try.prog 17 [.agg #[.slice A n c, .slice B m d, .slice C q e], .slice P z f] w fun x w' => ∃ A' c', x = .tuple #[.slice A' v.length c', .bool bo] ∧ OwnH w' w.heap.size w'.heap.size A' c' v ∧ Below w.heap.size w w' :=
  C_get w hA hB hC hP hr.h hn hm hq hz hl hl2 hl3 hL hp
structure BytesR (L : List Opn) (b : By) (e : Nat) : Prop where
  h : bytesO L = (b, e)
structure ReadR (b : By) (L : List Opn) (e : Nat) : Prop where
  h : readO b = (L, e)
theorem C_opsBytesN {A : Option Addr} {L : List Opn} {b : By} {e n c : Nat} (w : World) (hr : BytesR L b e) (hL : RO w A L) (hn : n = L.length) (hln : L.length ≤ 4000000) (hl : ∀ o ∈ L, o.2.1.length ≤ 4000000 ∧ o.2.2.1.length ≤ 4000000) :
    CallsR Try.prog 10 [.slice A n c] w fun v w' => ∃ A' c', v = .tuple #[.slice A' b.length c', .int .i64 (e : Int)] ∧ OwnH w' w.heap.size w'.heap.size A' c' b ∧ Below w.heap.size w w' := by
  have h := C_opsBytes (c := c) w hL hn hln hl
  rwa [hr.h] at h
theorem C_opsReadN {A : Option Addr} {b : By} {L : List Opn} {e n c : Nat} (w : World) (hr : ReadR b L e) (hA : Rd w A b) (hn : n = b.length) (hl : b.length ≤ 4000000) :
    CallsR Try.prog 8 [.slice A n c] w fun v w' => ∃ A' c', v = .tuple #[.slice A' L.length c', .int .i64 (e : Int)] ∧ OwnO w' w.heap.size w'.heap.size A' c' L ∧ Below w.heap.size w w' :=
  C_opsRead w hA hr.h hn hl
theorem C_lives22 (w : World) : CallsR Try.prog 5 [] w fun v w' => v = .bool true ∧ Below w.heap.size w w' := by
  have e1 : StepR [] [kA] [kA] kA 1 [107] [118] z32 [([107], [118])] [kA] [kA] true := ⟨by decide +kernel⟩
  have e2 : StepR [([107], [118])] [kA] [kA] kB 1 [107] [119] z32 [([107], [118])] [kA] [kA] false := ⟨by decide +kernel⟩
  have e3 : StepR [] [kA] [kA] kA 6 [] [] kA [] [kA] [kA] false := ⟨by decide +kernel⟩
  have e4 : GetR [([107], [118])] [kA] [kA] [107] [118] true := ⟨by decide +kernel⟩
  refine callsR Try.func5 rfl rfl (by kernel_rfl) rfl ?_
  have hw := Below.refl w.heap.size w
  refine rk_seq ?_
  refine rk_region ?_
  refine wl_p (fun _ => o_assign rfl) ?_
  refine wl_nil ?_
  refine rk_seq ?_
  refine rk_region ?_
  refine wl_call rfl (C_alone _) ?_
  rintro v10 w10 ⟨B10, ⟨C10, ⟨rfl, ⟨f10, ⟨f10_1, b10⟩⟩⟩⟩⟩
  have s10 := b10.size
  replace hw := hw.trans (b10.mono hw.size)
  refine wl_call rfl (C_a _) ?_
  rintro v11 w11 ⟨rfl, b11⟩
  have s11 := b11.size
  replace hw := hw.trans (b11.mono hw.size)
  replace f10_1 := f10_1.u b11
  replace f10 := f10.u b11
  refine wl_call rfl (C_put _ (by simp) (by simp)) ?_
  rintro v12 w12 ⟨K12, ⟨c12, ⟨V12, ⟨d12, ⟨rfl, ⟨f12, ⟨i12, ⟨i12_1, ⟨f12_1, ⟨i12_2, ⟨i12_3, b12⟩⟩⟩⟩⟩⟩⟩⟩⟩⟩⟩
  have s12 := b12.size
  replace hw := hw.trans (b12.mono hw.size)
  replace f10 := f10.u b12
  replace f10_1 := f10_1.u b12
  refine wl_call rfl (C_opsStepN _ e1 (RI.nil_) f10.to_RKs f10_1.to_RKs f12.to_Rd f12_1.to_Rd (by rfl) (by rfl) (by rfl) rfl rfl (by simp) (by simp) (by simp) (by simp [LtI]) (by simp) (by simp)) ?_
  rintro v13 w13 ⟨A13, ⟨c13, ⟨B13, ⟨d13, ⟨C13, ⟨e13, ⟨rfl, ⟨f13, ⟨f13_1, ⟨f13_2, b13⟩⟩⟩⟩⟩⟩⟩⟩⟩⟩
  have qf13 := f13.cap
  have qf13_1 := f13_1.cap
  have qf13_2 := f13_2.cap
  have s13 := b13.size
  replace hw := hw.trans (b13.mono hw.size)
  replace f10_1 := f10_1.u b13
  replace f10 := f10.u b13
  replace f12_1 := f12_1.u b13
  replace f12 := f12.u b13
  refine wl_p (fun _ => o_move rfl) ?_
  refine wl_p (fun _ => o_ext20 rfl) ?_
  refine wl_p (fun _ => o_ext21 rfl) ?_
  refine wl_allocg [_, _, _] Try.zeroValue27 (by rfl) ?_
  rintro g1 w1 f1 b1 i1 i1_1
  have s1 := b1.size
  replace hw := hw.trans (b1.mono hw.size)
  replace f12 := f12.u b1
  replace f12_1 := f12_1.u b1
  replace f10 := f10.u b1
  replace f10_1 := f10_1.u b1
  replace f13_2 := f13_2.u b1
  replace f13_1 := f13_1.u b1
  replace f13 := f13.u b1
  refine wl_storega Try.sizeOf27 rfl rfl (by rfl) (oneCell_of (by rfl)) f1 (by rfl) ?_
  rintro w_1 f g e
  have s := g.size
  replace hw := hw.trans (below_of_grownBy g.g hw.size (by omega))
  replace f13 := f13.y g (by decide)
  replace f13_1 := f13_1.y g (by decide)
  replace f13_2 := f13_2.y g (by decide)
  replace f10_1 := f10_1.y g (by decide)
  replace f10 := f10.y g (by decide)
  replace f12_1 := f12_1.y g (by decide)
  replace f12 := f12.y g (by decide)
  clear f1
  refine wl_p (fun _ => o_assign rfl) ?_
  refine wl_nil ?_
  refine rk_seq ?_
  refine rk_drawo (id := 2) (none) [0, 0, 2, 7, 8, 16, 16, 0, 191, 511] [0, 0, 2, 7, 15, 31, 31, 0, 191, 511] 398 134 [0] [(.s, 0), (.f 1 398 134, 9)] (by kernel_rfl) (by kernel_rfl) (by kernel_rfl) (by kernel_rfl) (by kernel_rfl) ?_
  dsimp only [inOrder, nthOp]
  replace hw := hw.drew
  replace f12 := f12.d
  replace f12_1 := f12_1.d
  replace f10 := f10.d
  replace f10_1 := f10_1.d
  replace f13_2 := f13_2.d
  replace f13_1 := f13_1.d
  replace f13 := f13.d
  replace f := f.d
  refine wl_s (fun _ hk => (o_loadag Try.isAgg27 Try.sizeOf27 rfl (f.u (below_of_grown_none hk)) (by rfl))) ?_
  have hw1 := Below.refl w_1.drew.heap.size w_1.drew
  have hg1 := f.lt
  refine wl_forkf (m := 1) (L := 398) (C := 134) (n := 9) (k1 := 1) (k2 := 7) (fun fb fr w' => ∃ g3 A' c' B' d' C' e', fr = [(3, .pointer (some ⟨g3, 0, none⟩)), (21, .agg #[.slice A' [(([107] : By), ([118] : By))].length c', .slice B' [kA].length d', .slice C' [kA].length e']), (22, .bool false)] ++ fb ∧ Blk w' g3 27 [.slice none 0 0, .slice none 0 0, .slice none 0 0] ∧ g1 < g3 ∧ Below w_1.drew.heap.size w_1.drew w') [0, 0, 2, 7, 8, 16, 16, 0, 191, 511] [0, 0, 2, 7, 15, 31, 31, 0, 191, 511] [1] [7, 1, 2, 3, 4, 5, 6, 8, 9] [8, 9] [(.f 3 398 134, 8)] [(.c, 1), (.c, 2), (.l, 3), (.p, 4), (.p, 5), (.p, 6), (.l, 8), (.p, 9)] [(.l, 8), (.p, 9)] (by kernel_rfl) (by kernel_rfl) (by kernel_rfl) (by kernel_rfl) (by kernel_rfl) ?_ (fun hj => ?_) (fun hj => ?_) <;> dsimp only [inOrder, nthOp]
  · clear hw1
    rintro fr w' ⟨g3, A', c', B', d', C', e', rfl, f3, h3, hw1⟩
    first | refine rk_frame (by simp only [List.cons_append, List.nil_append, List.drop_succ_cons, List.drop_zero]; rfl) ?_ | refine wl_frame (by simp only [List.cons_append, List.nil_append, List.drop_succ_cons, List.drop_zero]; rfl) ?_
    have shw1 := hw1.size
    simp only [drew_size] at shw1
    replace hw := hw.trans (hw1.mono hw.size)
    replace f := f.u hw1
    replace f13 := f13.u hw1
    replace f13_1 := f13_1.u hw1
    replace f13_2 := f13_2.u hw1
    replace f10_1 := f10_1.u hw1
    replace f10 := f10.u hw1
    replace f12_1 := f12_1.u hw1
    replace f12 := f12.u hw1
    refine wl_storega Try.sizeOf27 rfl rfl (by rfl) (oneCell_of (by rfl)) f3 (by rfl) ?_
    rintro w_2 f_1 g_1 e_1
    have s_1 := g_1.size
    replace hw := hw.trans (below_of_grownBy g_1.g hw.size (by omega))
    replace f12 := f12.y g_1 (by decide)
    replace f12_1 := f12_1.y g_1 (by decide)
    replace f10 := f10.y g_1 (by decide)
    replace f10_1 := f10_1.y g_1 (by decide)
    replace f13_2 := f13_2.y g_1 (by decide)
    replace f13_1 := f13_1.y g_1 (by decide)
    replace f13 := f13.y g_1 (by decide)
    replace f := f.k g_1.g (ap_some (by omega))
    clear f3
    refine wl_p (fun _ => o_assign rfl) ?_
    refine wl_nild ?_
    refine rk_seq ?_
    refine rk_region ?_
    refine wl_call rfl (C_alone _) ?_
    rintro v24 w24 ⟨B24, ⟨C24, ⟨rfl, ⟨f24, ⟨f24_1, b24⟩⟩⟩⟩⟩
    have s24 := b24.size
    replace hw := hw.trans (b24.mono hw.size)
    replace f := f.u b24
    replace f13 := f13.u b24
    replace f13_1 := f13_1.u b24
    replace f13_2 := f13_2.u b24
    replace f10_1 := f10_1.u b24
    replace f10 := f10.u b24
    replace f12_1 := f12_1.u b24
    replace f12 := f12.u b24
    replace f_1 := f_1.u b24
    refine wl_call rfl (C_a _) ?_
    rintro v25 w25 ⟨rfl, b25⟩
    have s25 := b25.size
    replace hw := hw.trans (b25.mono hw.size)
    replace f_1 := f_1.u b25
    replace f12 := f12.u b25
    replace f12_1 := f12_1.u b25
    replace f10 := f10.u b25
    replace f10_1 := f10_1.u b25
    replace f13_2 := f13_2.u b25
    replace f13_1 := f13_1.u b25
    replace f13 := f13.u b25
    replace f := f.u b25
    replace f24_1 := f24_1.u b25
    replace f24 := f24.u b25
    refine wl_call rfl (C_a _) ?_
    rintro v26 w26 ⟨rfl, b26⟩
    have s26 := b26.size
    replace hw := hw.trans (b26.mono hw.size)
    replace f24 := f24.u b26
    replace f24_1 := f24_1.u b26
    replace f := f.u b26
    replace f13 := f13.u b26
    replace f13_1 := f13_1.u b26
    replace f13_2 := f13_2.u b26
    replace f10_1 := f10_1.u b26
    replace f10 := f10.u b26
    replace f12_1 := f12_1.u b26
    replace f12 := f12.u b26
    replace f_1 := f_1.u b26
    refine wl_p (fun _ => (o_bldOp03 rfl rfl)) ?_
    refine wl_call rfl (C_opsStepN _ e3 (RI.nil_) f24.to_RKs f24_1.to_RKs (Rd.nil_) (Rd.nil_) (by rfl) (by rfl) (by rfl) (by rfl) (by rfl) (by simp) (by simp) (by simp) (by simp [LtI]) (by simp) (by simp)) ?_
    rintro v28 w28 ⟨A28, ⟨c28, ⟨B28, ⟨d28, ⟨C28, ⟨e28, ⟨rfl, ⟨f28, ⟨f28_1, ⟨f28_2, b28⟩⟩⟩⟩⟩⟩⟩⟩⟩⟩
    have qf28 := f28.cap
    have qf28_1 := f28_1.cap
    have qf28_2 := f28_2.cap
    have s28 := b28.size
    replace hw := hw.trans (b28.mono hw.size)
    replace f_1 := f_1.u b28
    replace f12 := f12.u b28
    replace f12_1 := f12_1.u b28
    replace f10 := f10.u b28
    replace f10_1 := f10_1.u b28
    replace f13_2 := f13_2.u b28
    replace f13_1 := f13_1.u b28
    replace f13 := f13.u b28
    replace f := f.u b28
    replace f24_1 := f24_1.u b28
    replace f24 := f24.u b28
    refine wl_p (fun _ => o_move rfl) ?_
    refine wl_p (fun _ => o_ext20 rfl) ?_
    refine wl_p (fun _ => o_ext21 rfl) ?_
    refine wl_allocg [_, _, _] Try.zeroValue27 (by rfl) ?_
    rintro g5 w5 f5 b5 i5 i5_1
    have s5 := b5.size
    replace hw := hw.trans (b5.mono hw.size)
    replace f24 := f24.u b5
    replace f24_1 := f24_1.u b5
    replace f := f.u b5
    replace f13 := f13.u b5
    replace f13_1 := f13_1.u b5
    replace f13_2 := f13_2.u b5
    replace f10_1 := f10_1.u b5
    replace f10 := f10.u b5
    replace f12_1 := f12_1.u b5
    replace f12 := f12.u b5
    replace f_1 := f_1.u b5
    replace f28_2 := f28_2.u b5
    replace f28_1 := f28_1.u b5
    replace f28 := f28.u b5
    refine wl_storega Try.sizeOf27 rfl rfl (by rfl) (oneCell_of (by rfl)) f5 (by rfl) ?_
    rintro w_3 f_2 g_2 e_2
    have s_2 := g_2.size
    replace hw := hw.trans (below_of_grownBy g_2.g hw.size (by omega))
    replace f28 := f28.y g_2 (by decide)
    replace f28_1 := f28_1.y g_2 (by decide)
    replace f28_2 := f28_2.y g_2 (by decide)
    replace f12 := f12.y g_2 (by decide)
    replace f12_1 := f12_1.y g_2 (by decide)
    replace f10 := f10.y g_2 (by decide)
    replace f10_1 := f10_1.y g_2 (by decide)
    replace f13_2 := f13_2.y g_2 (by decide)
    replace f13_1 := f13_1.y g_2 (by decide)
    replace f13 := f13.y g_2 (by decide)
    replace f := f.k g_2.g (ap_some (by omega))
    replace f24_1 := f24_1.y g_2 (by decide)
    replace f24 := f24.y g_2 (by decide)
    clear f_1
    clear f5
    refine wl_p (fun _ => o_assign rfl) ?_
    refine wl_nil ?_
    refine rk_seq ?_
    refine rk_region ?_
    refine wl_r (o_loadag Try.isAgg27 Try.sizeOf27 rfl f (by rfl)) ?_
    refine wl_litC [107] Try.u8 Try.sizeOf5 Try.zeroValue5 (by rfl) rfl rfl (by rfl) (by rfl) (by rfl) ?_
    rintro A33 w33 f33 b33
    have s33 := b33.size
    replace hw := hw.trans (b33.mono hw.size)
    replace f24 := f24.u b33
    replace f24_1 := f24_1.u b33
    replace f := f.u b33
    replace f13 := f13.u b33
    replace f13_1 := f13_1.u b33
    replace f13_2 := f13_2.u b33
    replace f10_1 := f10_1.u b33
    replace f10 := f10.u b33
    replace f12_1 := f12_1.u b33
    replace f12 := f12.u b33
    replace f28_2 := f28_2.u b33
    replace f28_1 := f28_1.u b33
    replace f28 := f28.u b33
    replace f_2 := f_2.u b33
    refine wl_call rfl (C_getN _ e4 f13.to_RI f13_1.to_RKs f13_2.to_RKs f33.to_Rd rfl rfl rfl (by rfl) (by simp) (by simp) (by simp) (by simp [LtI]) (by simp)) ?_
    rintro v35 w35 ⟨A35, ⟨c35, ⟨rfl, ⟨f35, b35⟩⟩⟩⟩
    have qf35 := f35.cap
    have s35 := b35.size
    replace hw := hw.trans (b35.mono hw.size)
    replace f_2 := f_2.u b35
    replace f28 := f28.u b35
    replace f28_1 := f28_1.u b35
    replace f28_2 := f28_2.u b35
    replace f12 := f12.u b35
    replace f12_1 := f12_1.u b35
    replace f10 := f10.u b35
    replace f10_1 := f10_1.u b35
    replace f13_2 := f13_2.u b35
    replace f13_1 := f13_1.u b35
    replace f13 := f13.u b35
    replace f := f.u b35
    replace f24_1 := f24_1.u b35
    replace f24 := f24.u b35
    replace f33 := f33.u b35
    refine wl_p (fun _ => o_move rfl) ?_
    refine wl_p (fun _ => o_ext20 rfl) ?_
    refine wl_p (fun _ => o_ext21 rfl) ?_
    refine wl_p (fun _ => o_assign rfl) ?_
    refine wl_p (fun _ => o_assign rfl) ?_
    refine wl_nil ?_
    refine rk_seq ?_
    refine rk_region ?_
    refine wl_p (fun _ => o_move rfl) ?_
    refine wl_p (fun _ => o_move rfl) ?_
    refine wl_p (fun _ => o_move rfl) ?_
    refine wl_p (fun _ => o_not rfl) ?_
    refine wl_p (fun _ => o_pick_t rfl rfl) ?_
    refine wl_p (fun _ => o_move rfl) ?_
    refine wl_p (fun _ => o_move rfl) ?_
    refine wl_p (fun _ => o_not rfl) ?_
    refine wl_p (fun _ => o_pick_t rfl rfl) ?_
    refine wl_p (fun _ => o_move rfl) ?_
    refine wl_p (fun _ => o_move rfl) ?_
    refine wl_p (fun _ => o_pick_t rfl rfl) ?_
    refine wl_p (fun _ => o_move rfl) ?_
    refine wl_p (fun _ => o_move rfl) ?_
    refine wl_r (o_strU Try.underlying23 Try.underlying5 Try.underlying9 rfl f35.to_Rd (Below.refl _ _) rfl) ?_
    refine wl_p (fun _ => o_seq rfl rfl) ?_
    refine wl_p (fun _ => o_pick_t rfl rfl) ?_
    refine wl_p (fun _ => o_assign rfl) ?_
    refine wl_nil ?_
    refine ret1 rfl rfl ?_
    exact ⟨rfl, hw⟩
  · refine wl_call rfl (C_b _) ?_ (hq := .inr fun _ _ h => grown_of_below h.2 _)
    rintro v18 w18 ⟨rfl, b18⟩
    simp only [drew_size] at b18
    have s18 := b18.size
    simp only [drew_size] at s18
    replace hw := hw.trans (b18.mono hw.size)
    replace hw1 := hw1.trans (b18.mono hw1.size)
    replace f := f.u b18
    replace f13 := f13.u b18
    replace f13_1 := f13_1.u b18
    replace f13_2 := f13_2.u b18
    replace f10_1 := f10_1.u b18
    replace f10 := f10.u b18
    replace f12_1 := f12_1.u b18
    replace f12 := f12.u b18
    refine wl_fork2j (m := 3) (L := 398) (C := 134) (n := 8) (k1 := 2) (k2 := 7) _ [0, 0, 2, 7, 8, 16, 16, 0, 191, 511] [0, 0, 2, 7, 15, 31, 31, 0, 191, 511] [2] [7, 2, 3, 4, 5, 6, 8, 9] [8, 9] [(.f 7 398 134, 7)] [(.c, 2), (.l, 3), (.p, 4), (.p, 5), (.p, 6), (.l, 8), (.p, 9)] [(.l, 8), (.p, 9)] (by kernel_rfl) (by kernel_rfl) (by kernel_rfl) (by kernel_rfl) (by kernel_rfl) hj (fun hj => ?_) (fun hj => ?_) <;> dsimp only [inOrder, nthOp]
    · refine wl_call rfl (C_put _ (by simp) (by simp)) ?_ (hq := .inr fun _ _ h => grown_of_below h.choose_spec.choose_spec.choose_spec.choose_spec.2.2.2.2.2.2.2 _)
      rintro v19 w19 ⟨K19, ⟨c19, ⟨V19, ⟨d19, ⟨rfl, ⟨f19, ⟨i19, ⟨i19_1, ⟨f19_1, ⟨i19_2, ⟨i19_3, b19⟩⟩⟩⟩⟩⟩⟩⟩⟩⟩⟩
      have s19 := b19.size
      replace hw := hw.trans (b19.mono hw.size)
      replace hw1 := hw1.trans (b19.mono hw1.size)
      replace f12 := f12.u b19
      replace f12_1 := f12_1.u b19
      replace f10 := f10.u b19
      replace f10_1 := f10_1.u b19
      replace f13_2 := f13_2.u b19
      replace f13_1 := f13_1.u b19
      replace f13 := f13.u b19
      replace f := f.u b19
      refine wl_fork2j (m := 7) (L := 398) (C := 134) (n := 7) (k1 := 3) (k2 := 7) _ [0, 0, 2, 7, 8, 16, 16, 0, 191, 511] [0, 0, 2, 7, 15, 31, 31, 0, 191, 511] [3, 4, 5, 6, 7, 8, 9] [7, 3, 4, 5, 6, 8, 9] [8, 9] [(.p, 4), (.p, 5), (.p, 6), (.c, 7), (.l, 8), (.p, 9)] [(.l, 3), (.p, 4), (.p, 5), (.p, 6), (.l, 8), (.p, 9)] [(.l, 8), (.p, 9)] (by kernel_rfl) (by kernel_rfl) (by kernel_rfl) (by kernel_rfl) (by kernel_rfl) hj (fun hj => ?_) (fun hj => ?_) <;> dsimp only [inOrder, nthOp]
      · refine wl_call rfl (C_opsStepN _ e2 f13.to_RI f13_1.to_RKs f13_2.to_RKs f19.to_Rd f19_1.to_Rd rfl rfl rfl rfl rfl (by simp) (by simp) (by simp) (by simp [LtI]) (by simp) (by simp)) ?_
        rintro v20 w20 ⟨A20, ⟨c20, ⟨B20, ⟨d20, ⟨C20, ⟨e20, ⟨rfl, ⟨f20, ⟨f20_1, ⟨f20_2, b20⟩⟩⟩⟩⟩⟩⟩⟩⟩⟩
        have qf20 := f20.cap
        have qf20_1 := f20_1.cap
        have qf20_2 := f20_2.cap
        have s20 := b20.size
        replace hw := hw.trans (b20.mono hw.size)
        replace hw1 := hw1.trans (b20.mono hw1.size)
        replace f := f.u b20
        replace f13 := f13.u b20
        replace f13_1 := f13_1.u b20
        replace f13_2 := f13_2.u b20
        replace f10_1 := f10_1.u b20
        replace f10 := f10.u b20
        replace f12_1 := f12_1.u b20
        replace f12 := f12.u b20
        replace f19_1 := f19_1.u b20
        replace f19 := f19.u b20
        refine wl_p (fun _ => o_move rfl) ?_
        refine wl_p (fun _ => o_ext20 rfl) ?_
        refine wl_p (fun _ => o_ext21 rfl) ?_
        refine wl_allocg [_, _, _] Try.zeroValue27 (by rfl) ?_
        rintro g3 w3 f3 b3 i3 i3_1
        have s3 := b3.size
        replace hw := hw.trans (b3.mono hw.size)
        replace hw1 := hw1.trans (b3.mono hw1.size)
        replace f19 := f19.u b3
        replace f19_1 := f19_1.u b3
        replace f12 := f12.u b3
        replace f12_1 := f12_1.u b3
        replace f10 := f10.u b3
        replace f10_1 := f10_1.u b3
        replace f13_2 := f13_2.u b3
        replace f13_1 := f13_1.u b3
        replace f13 := f13.u b3
        replace f := f.u b3
        replace f20_2 := f20_2.u b3
        replace f20_1 := f20_1.u b3
        replace f20 := f20.u b3
        exact wl_tof hj (Fr.le_of (by kernel_rfl) (by kernel_rfl) (by repeat' constructor)) ⟨g3, _, _, _, _, _, _, rfl, f3, by omega, hw1⟩
      · refine wl_allocg [_, _, _] Try.zeroValue27 (by rfl) ?_
        rintro g3 w3 f3 b3 i3 i3_1
        have s3 := b3.size
        replace hw := hw.trans (b3.mono hw.size)
        replace hw1 := hw1.trans (b3.mono hw1.size)
        replace f := f.u b3
        replace f13 := f13.u b3
        replace f13_1 := f13_1.u b3
        replace f13_2 := f13_2.u b3
        replace f10_1 := f10_1.u b3
        replace f10 := f10.u b3
        replace f12_1 := f12_1.u b3
        replace f12 := f12.u b3
        replace f19_1 := f19_1.u b3
        replace f19 := f19.u b3
        refine wl_call rfl (C_opsStepN _ e2 f13.to_RI f13_1.to_RKs f13_2.to_RKs f19.to_Rd f19_1.to_Rd rfl rfl rfl rfl rfl (by simp) (by simp) (by simp) (by simp [LtI]) (by simp) (by simp)) ?_
        rintro v20 w20 ⟨A20, ⟨c20, ⟨B20, ⟨d20, ⟨C20, ⟨e20, ⟨rfl, ⟨f20, ⟨f20_1, ⟨f20_2, b20⟩⟩⟩⟩⟩⟩⟩⟩⟩⟩
        have qf20 := f20.cap
        have qf20_1 := f20_1.cap
        have qf20_2 := f20_2.cap
        have s20 := b20.size
        replace hw := hw.trans (b20.mono hw.size)
        replace hw1 := hw1.trans (b20.mono hw1.size)
        replace f19 := f19.u b20
        replace f19_1 := f19_1.u b20
        replace f12 := f12.u b20
        replace f12_1 := f12_1.u b20
        replace f10 := f10.u b20
        replace f10_1 := f10_1.u b20
        replace f13_2 := f13_2.u b20
        replace f13_1 := f13_1.u b20
        replace f13 := f13.u b20
        replace f := f.u b20
        replace f3 := f3.u b20
        refine wl_p (fun _ => o_move rfl) ?_
        refine wl_p (fun _ => o_ext20 rfl) ?_
        refine wl_p (fun _ => o_ext21 rfl) ?_
        exact wl_tof hj (Fr.le_of (by kernel_rfl) (by kernel_rfl) (by repeat' constructor)) ⟨g3, _, _, _, _, _, _, rfl, f3, by omega, hw1⟩
    · refine wl_allocg [_, _, _] Try.zeroValue27 (by rfl) ?_
      rintro g3 w3 f3 b3 i3 i3_1
      have s3 := b3.size
      replace hw := hw.trans (b3.mono hw.size)
      replace hw1 := hw1.trans (b3.mono hw1.size)
      replace f12 := f12.u b3
      replace f12_1 := f12_1.u b3
      replace f10 := f10.u b3
      replace f10_1 := f10_1.u b3
      replace f13_2 := f13_2.u b3
      replace f13_1 := f13_1.u b3
      replace f13 := f13.u b3
      replace f := f.u b3
      refine wl_call rfl (C_put _ (by simp) (by simp)) ?_ (hq := .inr fun _ _ h => grown_of_below h.choose_spec.choose_spec.choose_spec.choose_spec.2.2.2.2.2.2.2 _)
      rintro v19 w19 ⟨K19, ⟨c19, ⟨V19, ⟨d19, ⟨rfl, ⟨f19, ⟨i19, ⟨i19_1, ⟨f19_1, ⟨i19_2, ⟨i19_3, b19⟩⟩⟩⟩⟩⟩⟩⟩⟩⟩⟩
      have s19 := b19.size
      replace hw := hw.trans (b19.mono hw.size)
      replace hw1 := hw1.trans (b19.mono hw1.size)
      replace f := f.u b19
      replace f13 := f13.u b19
      replace f13_1 := f13_1.u b19
      replace f13_2 := f13_2.u b19
      replace f10_1 := f10_1.u b19
      replace f10 := f10.u b19
      replace f12_1 := f12_1.u b19
      replace f12 := f12.u b19
      replace f3 := f3.u b19
      refine wl_call rfl (C_opsStepN _ e2 f13.to_RI f13_1.to_RKs f13_2.to_RKs f19.to_Rd f19_1.to_Rd rfl rfl rfl rfl rfl (by simp) (by simp) (by simp) (by simp [LtI]) (by simp) (by simp)) ?_
      rintro v20 w20 ⟨A20, ⟨c20, ⟨B20, ⟨d20, ⟨C20, ⟨e20, ⟨rfl, ⟨f20, ⟨f20_1, ⟨f20_2, b20⟩⟩⟩⟩⟩⟩⟩⟩⟩⟩
      have qf20 := f20.cap
      have qf20_1 := f20_1.cap
      have qf20_2 := f20_2.cap
      have s20 := b20.size
      replace hw := hw.trans (b20.mono hw.size)
      replace hw1 := hw1.trans (b20.mono hw1.size)
      replace f3 := f3.u b20
      replace f12 := f12.u b20
      replace f12_1 := f12_1.u b20
      replace f10 := f10.u b20
      replace f10_1 := f10_1.u b20
      replace f13_2 := f13_2.u b20
      replace f13_1 := f13_1.u b20
      replace f13 := f13.u b20
      replace f := f.u b20
      replace f19_1 := f19_1.u b20
      replace f19 := f19.u b20
      refine wl_p (fun _ => o_move rfl) ?_
      refine wl_p (fun _ => o_ext20 rfl) ?_
      refine wl_p (fun _ => o_ext21 rfl) ?_
      exact wl_tof hj (Fr.le_of (by kernel_rfl) (by kernel_rfl) (by repeat' constructor)) ⟨g3, _, _, _, _, _, _, rfl, f3, by omega, hw1⟩
  · refine wl_allocg [_, _, _] Try.zeroValue27 (by rfl) ?_
    rintro g3 w3 f3 b3 i3 i3_1
    simp only [drew_size] at b3
    simp only [drew_size] at i3
    have s3 := b3.size
    simp only [drew_size] at s3
    replace hw := hw.trans (b3.mono hw.size)
    replace hw1 := hw1.trans (b3.mono hw1.size)
    replace f := f.u b3
    replace f13 := f13.u b3
    replace f13_1 := f13_1.u b3
    replace f13_2 := f13_2.u b3
    replace f10_1 := f10_1.u b3
    replace f10 := f10.u b3
    replace f12_1 := f12_1.u b3
    replace f12 := f12.u b3
    refine wl_call rfl (C_b _) ?_ (hq := .inr fun _ _ h => grown_of_below h.2 _)
    rintro v18 w18 ⟨rfl, b18⟩
    have s18 := b18.size
    replace hw := hw.trans (b18.mono hw.size)
    replace hw1 := hw1.trans (b18.mono hw1.size)
    replace f12 := f12.u b18
    replace f12_1 := f12_1.u b18
    replace f10 := f10.u b18
    replace f10_1 := f10_1.u b18
    replace f13_2 := f13_2.u b18
    replace f13_1 := f13_1.u b18
    replace f13 := f13.u b18
    replace f := f.u b18
    replace f3 := f3.u b18
    refine wl_call rfl (C_put _ (by simp) (by simp)) ?_ (hq := .inr fun _ _ h => grown_of_below h.choose_spec.choose_spec.choose_spec.choose_spec.2.2.2.2.2.2.2 _)
    rintro v19 w19 ⟨K19, ⟨c19, ⟨V19, ⟨d19, ⟨rfl, ⟨f19, ⟨i19, ⟨i19_1, ⟨f19_1, ⟨i19_2, ⟨i19_3, b19⟩⟩⟩⟩⟩⟩⟩⟩⟩⟩⟩
    have s19 := b19.size
    replace hw := hw.trans (b19.mono hw.size)
    replace hw1 := hw1.trans (b19.mono hw1.size)
    replace f3 := f3.u b19
    replace f := f.u b19
    replace f13 := f13.u b19
    replace f13_1 := f13_1.u b19
    replace f13_2 := f13_2.u b19
    replace f10_1 := f10_1.u b19
    replace f10 := f10.u b19
    replace f12_1 := f12_1.u b19
    replace f12 := f12.u b19
    refine wl_call rfl (C_opsStepN _ e2 f13.to_RI f13_1.to_RKs f13_2.to_RKs f19.to_Rd f19_1.to_Rd rfl rfl rfl rfl rfl (by simp) (by simp) (by simp) (by simp [LtI]) (by simp) (by simp)) ?_
    rintro v20 w20 ⟨A20, ⟨c20, ⟨B20, ⟨d20, ⟨C20, ⟨e20, ⟨rfl, ⟨f20, ⟨f20_1, ⟨f20_2, b20⟩⟩⟩⟩⟩⟩⟩⟩⟩⟩
    have qf20 := f20.cap
    have qf20_1 := f20_1.cap
    have qf20_2 := f20_2.cap
    have s20 := b20.size
    replace hw := hw.trans (b20.mono hw.size)
    replace hw1 := hw1.trans (b20.mono hw1.size)
    replace f12 := f12.u b20
    replace f12_1 := f12_1.u b20
    replace f10 := f10.u b20
    replace f10_1 := f10_1.u b20
    replace f13_2 := f13_2.u b20
    replace f13_1 := f13_1.u b20
    replace f13 := f13.u b20
    replace f := f.u b20
    replace f3 := f3.u b20
    replace f19_1 := f19_1.u b20
    replace f19 := f19.u b20
    refine wl_p (fun _ => o_move rfl) ?_
    refine wl_p (fun _ => o_ext20 rfl) ?_
    refine wl_p (fun _ => o_ext21 rfl) ?_
    exact wl_tof hj (Fr.le_of (by kernel_rfl) (by kernel_rfl) (by repeat' constructor)) ⟨g3, _, _, _, _, _, _, rfl, f3, by omega, hw1⟩
set_option maxHeartbeats 2000000 in
theorem C_OpsNames (w : World) : CallsR Try.prog 4 [] w fun v w' => v = .bool true ∧ Below w.heap.size w w' := by
  have e1 : StepR [] [kA] [kA] kA 3 [] [] kB [] [kA, kB] [kA] true := ⟨by decide +kernel⟩
  have e2 : StepR [] [kA, kB] [kA] kB 1 [107] [119] z32 [([107], [119])] [kA, kB] [kA] true := ⟨by decide +kernel⟩
  have e3 : StepR [([107], [119])] [kA, kB] [kA] kB 5 [] [] kB [([107], [119])] [kA, kB] [kA] false := ⟨by decide +kernel⟩
  obtain ⟨bs, e4, hbl, hb0, hb1⟩ : ∃ bs, BytesR [(2, [107], [], z32)] bs 0 ∧ bs.length = 4 ∧ (∀ h : 0 < bs.length, bs[0] = 1) ∧ ∀ h : 1 < bs.length, bs[1] = 2 := ⟨[1, 2, 1, 107], ⟨by decide +kernel⟩, rfl, fun _ => rfl, fun _ => rfl⟩
  have e5 : ReadR [] [] 4 := ⟨by kernel_rfl⟩
  have e6 : ReadR [0] [] 0 := ⟨by kernel_rfl⟩
  have e7 : OkSt [] [kA] [kA] := by decide +kernel
  have e8 : ¬OkSt [] [] [] := by decide +kernel
  have e9 : cmpL kA.1 kB.1 = -1 := by decide +kernel
  refine callsR Try.func4 rfl rfl (by kernel_rfl) rfl ?_
  have hw := Below.refl w.heap.size w
  refine rk_seq ?_
  refine rk_region ?_
  refine wl_p (fun _ => o_assign rfl) ?_
  refine wl_nil ?_
  refine rk_seq ?_
  refine rk_region ?_
  refine wl_call rfl (C_alone _) ?_
  rintro v14 w14 ⟨B14, ⟨C14, ⟨rfl, ⟨f14, ⟨f14_1, b14⟩⟩⟩⟩⟩
  have s14 := b14.size
  replace hw := hw.trans (b14.mono hw.size)
  refine wl_call rfl (C_a _) ?_
  rintro v15 w15 ⟨rfl, b15⟩
  have s15 := b15.size
  replace hw := hw.trans (b15.mono hw.size)
  replace f14_1 := f14_1.u b15
  replace f14 := f14.u b15
  refine wl_call rfl (C_b _) ?_
  rintro v16 w16 ⟨rfl, b16⟩
  have s16 := b16.size
  replace hw := hw.trans (b16.mono hw.size)
  replace f14 := f14.u b16
  replace f14_1 := f14_1.u b16
  refine wl_p (fun _ => (o_bldOp03 rfl rfl)) ?_
  refine wl_call rfl (C_opsStepN _ e1 (RI.nil_) f14.to_RKs f14_1.to_RKs (Rd.nil_) (Rd.nil_) (by rfl) (by rfl) (by rfl) (by rfl) (by rfl) (by simp) (by simp) (by simp) (by simp [LtI]) (by simp) (by simp)) ?_
  rintro v18 w18 ⟨A18, ⟨c18, ⟨B18, ⟨d18, ⟨C18, ⟨e18, ⟨rfl, ⟨f18, ⟨f18_1, ⟨f18_2, b18⟩⟩⟩⟩⟩⟩⟩⟩⟩⟩
  have qf18 := f18.cap
  have qf18_1 := f18_1.cap
  have qf18_2 := f18_2.cap
  have s18 := b18.size
  replace hw := hw.trans (b18.mono hw.size)
  replace f14_1 := f14_1.u b18
  replace f14 := f14.u b18
  refine wl_p (fun _ => o_move rfl) ?_
  refine wl_p (fun _ => o_ext20 rfl) ?_
  refine wl_p (fun _ => o_ext21 rfl) ?_
  refine wl_allocg [_, _, _] Try.zeroValue27 (by rfl) ?_
  rintro g1 w1 f1 b1 i1 i1_1
  have s1 := b1.size
  replace hw := hw.trans (b1.mono hw.size)
  replace f14 := f14.u b1
  replace f14_1 := f14_1.u b1
  replace f18_2 := f18_2.u b1
  replace f18_1 := f18_1.u b1
  replace f18 := f18.u b1
  refine wl_storega Try.sizeOf27 rfl rfl (by rfl) (oneCell_of (by rfl)) f1 (by rfl) ?_
  rintro w_1 f g e
  have s := g.size
  replace hw := hw.trans (below_of_grownBy g.g hw.size (by omega))
  replace f18 := f18.y g (by decide)
  replace f18_1 := f18_1.y g (by decide)
  replace f18_2 := f18_2.y g (by decide)
  replace f14_1 := f14_1.y g (by decide)
  replace f14 := f14.y g (by decide)
  clear f1
  refine wl_p (fun _ => o_assign rfl) ?_
  refine wl_nil ?_
  refine rk_seq ?_
  refine rk_drawo (id := 2) (none) [0, 0, 2, 7, 8, 16, 16, 0, 191, 511] [0, 0, 2, 7, 15, 31, 31, 0, 191, 511] 398 134 [0] [(.s, 0), (.f 1 398 134, 9)] (by kernel_rfl) (by kernel_rfl) (by kernel_rfl) (by kernel_rfl) (by kernel_rfl) ?_
  dsimp only [inOrder, nthOp]
  replace hw := hw.drew
  replace f14 := f14.d
  replace f14_1 := f14_1.d
  replace f18_2 := f18_2.d
  replace f18_1 := f18_1.d
  replace f18 := f18.d
  replace f := f.d
  refine wl_s (fun _ hk => (o_loadag Try.isAgg27 Try.sizeOf27 rfl (f.u (below_of_grown_none hk)) (by rfl))) ?_
  have hw1 := Below.refl w_1.drew.heap.size w_1.drew
  have hg1 := f.lt
  refine wl_forkf (m := 1) (L := 398) (C := 134) (n := 9) (k1 := 1) (k2 := 7) (fun fb fr w' => ∃ g3 A' c' B' d' C' e', fr = [(3, .pointer (some ⟨g3, 0, none⟩)), (26, .agg #[.slice A' [(([107] : By), ([119] : By))].length c', .slice B' [kA, kB].length d', .slice C' [kA].length e']), (27, .bool true)] ++ fb ∧ Blk w' g3 27 [.slice none 0 0, .slice none 0 0, .slice none 0 0] ∧ g1 < g3 ∧ RIT w' A' [([107], [119])] ∧ RKT w' B' [kA, kB] ∧ RKT w' C' [kA] ∧ Below w_1.drew.heap.size w_1.drew w') [0, 0, 2, 7, 8, 16, 16, 0, 191, 511] [0, 0, 2, 7, 15, 31, 31, 0, 191, 511] [1] [7, 1, 2, 3, 4, 5, 6, 8, 9] [8, 9] [(.f 3 398 134, 8)] [(.c, 1), (.c, 2), (.l, 3), (.p, 4), (.p, 5), (.p, 6), (.l, 8), (.p, 9)] [(.l, 8), (.p, 9)] (by kernel_rfl) (by kernel_rfl) (by kernel_rfl) (by kernel_rfl) (by kernel_rfl) ?_ (fun hj => ?_) (fun hj => ?_) <;> dsimp only [inOrder, nthOp]
  · clear hw1
    rintro fr w' ⟨g3, A', c', B', d', C', e', rfl, f3, h3, k1, k2, k3, hw1⟩
    first | refine rk_frame (by simp only [List.cons_append, List.nil_append, List.drop_succ_cons, List.drop_zero]; rfl) ?_ | refine wl_frame (by simp only [List.cons_append, List.nil_append, List.drop_succ_cons, List.drop_zero]; rfl) ?_
    have shw1 := hw1.size
    simp only [drew_size] at shw1
    replace hw := hw.trans (hw1.mono hw.size)
    replace f := f.u hw1
    replace f18 := f18.u hw1
    replace f18_1 := f18_1.u hw1
    replace f18_2 := f18_2.u hw1
    replace f14_1 := f14_1.u hw1
    replace f14 := f14.u hw1
    refine wl_storega Try.sizeOf27 rfl rfl (by rfl) (oneCell_of (by rfl)) f3 (by rfl) ?_
    rintro w_2 f_1 g_1 e_1
    have s_1 := g_1.size
    replace hw := hw.trans (below_of_grownBy g_1.g hw.size (by omega))
    replace f14 := f14.y g_1 (by decide)
    replace f14_1 := f14_1.y g_1 (by decide)
    replace f18_2 := f18_2.y g_1 (by decide)
    replace f18_1 := f18_1.y g_1 (by decide)
    replace f18 := f18.y g_1 (by decide)
    replace f := f.k g_1.g (ap_some (by omega))
    replace k3 := k3.y g_1 (by decide)
    replace k2 := k2.y g_1 (by decide)
    replace k1 := k1.y g_1 (by decide)
    clear f3
    refine wl_p (fun _ => o_assign rfl) ?_
    refine wl_nild ?_
    refine rk_seq ?_
    refine rk_drawo (id := 3) (none) [0, 0, 2, 4, 15, 16, 32, 32, 0, 383, 1023] [0, 0, 2, 6, 15, 31, 63, 63, 0, 383, 1023] 790 262 [0] [(.s, 0), (.f 1 790 262, 10)] (by kernel_rfl) (by kernel_rfl) (by kernel_rfl) (by kernel_rfl) (by kernel_rfl) ?_
    dsimp only [inOrder, nthOp]
    replace hw := hw.drew
    replace k1 := k1.d
    replace k2 := k2.d
    replace k3 := k3.d
    replace f := f.d
    replace f18 := f18.d
    replace f18_1 := f18_1.d
    replace f18_2 := f18_2.d
    replace f14_1 := f14_1.d
    replace f14 := f14.d
    replace f_1 := f_1.d
    refine wl_s (fun _ hk => (o_loadag Try.isAgg27 Try.sizeOf27 rfl (f_1.u (below_of_grown_none hk)) (by rfl))) ?_
    have hw2 := Below.refl w_2.drew.heap.size w_2.drew
    have hg3 := f_1.lt
    have hg4 : g3 < w_2.heap.size := f_1.lt
    have hg5 : g1 < w_2.heap.size := f.lt
    refine wl_forkf (m := 1) (L := 790) (C := 262) (n := 10) (k1 := 1) (k2 := 8) (fun fb fr w' => ∃ g5 A5 c5 B5 d5 C5 e5, fr = [(5, .pointer (some ⟨g5, 0, none⟩)), (34, .agg #[.slice A5 [(([107] : By), ([119] : By))].length c5, .slice B5 [kA, kB].length d5, .slice C5 [kA].length e5]), (35, .bool false)] ++ fb ∧ Blk w' g5 27 [.slice none 0 0, .slice none 0 0, .slice none 0 0] ∧ g1 < g5 ∧ g3 < g5 ∧ Below w_2.drew.heap.size w_2.drew w') [0, 0, 2, 4, 15, 16, 32, 32, 0, 383, 1023] [0, 0, 2, 6, 15, 31, 63, 63, 0, 383, 1023] [1] [8, 1, 2, 3, 4, 5, 6, 7, 9, 10] [9, 10] [(.f 3 790 262, 9)] [(.c, 1), (.c, 2), (.p, 3), (.l, 4), (.p, 5), (.p, 6), (.p, 7), (.l, 9), (.p, 10)] [(.l, 9), (.p, 10)] (by kernel_rfl) (by kernel_rfl) (by kernel_rfl) (by kernel_rfl) (by kernel_rfl) ?_ (fun hj => ?_) (fun hj => ?_) <;> dsimp only [inOrder, nthOp]
    · clear hw2
      rintro fr w' ⟨g5, A5, c5, B5, d5, C5, e55, rfl, f5, h5, h6, hw2⟩
      first | refine rk_frame (by simp only [List.cons_append, List.nil_append, List.drop_succ_cons, List.drop_zero]; rfl) ?_ | refine wl_frame (by simp only [List.cons_append, List.nil_append, List.drop_succ_cons, List.drop_zero]; rfl) ?_
      have shw2 := hw2.size
      simp only [drew_size] at shw2
      replace hw := hw.trans (hw2.mono hw.size)
      replace f_1 := f_1.u hw2
      replace f14 := f14.u hw2
      replace f14_1 := f14_1.u hw2
      replace f18_2 := f18_2.u hw2
      replace f18_1 := f18_1.u hw2
      replace f18 := f18.u hw2
      replace f := f.u hw2
      replace k3 := k3.u hw2
      replace k2 := k2.u hw2
      replace k1 := k1.u hw2
      refine wl_storega Try.sizeOf27 rfl rfl (by rfl) (oneCell_of (by rfl)) f5 (by rfl) ?_
      rintro w_3 f_2 g_2 e_2
      have s_2 := g_2.size
      replace hw := hw.trans (below_of_grownBy g_2.g hw.size (by omega))
      replace k1 := k1.y g_2 (by decide)
      replace k2 := k2.y g_2 (by decide)
      replace k3 := k3.y g_2 (by decide)
      replace f := f.k g_2.g (ap_some (by omega))
      replace f18 := f18.y g_2 (by decide)
      replace f18_1 := f18_1.y g_2 (by decide)
      replace f18_2 := f18_2.y g_2 (by decide)
      replace f14_1 := f14_1.y g_2 (by decide)
      replace f14 := f14.y g_2 (by decide)
      replace f_1 := f_1.k g_2.g (ap_some (by omega))
      clear f5
      refine wl_p (fun _ => o_assign rfl) ?_
      refine wl_nild ?_
      refine rk_seq ?_
      refine rk_region ?_
      refine wl_litC [107] Try.u8 Try.sizeOf5 Try.zeroValue5 (by rfl) rfl rfl (by rfl) (by rfl) (by rfl) ?_
      rintro A37 w37 f37 b37
      have s37 := b37.size
      replace hw := hw.trans (b37.mono hw.size)
      replace f_1 := f_1.u b37
      replace f14 := f14.u b37
      replace f14_1 := f14_1.u b37
      replace f18_2 := f18_2.u b37
      replace f18_1 := f18_1.u b37
      replace f18 := f18.u b37
      replace f := f.u b37
      replace k3 := k3.u b37
      replace k2 := k2.u b37
      replace k1 := k1.u b37
      replace f_2 := f_2.u b37
      refine wl_p (fun _ => (o_bldOp01 rfl rfl)) ?_
      refine wl_litO1 (by rfl) rfl f37 (RdT.nil_) (by rfl) (by rfl) (by simp) (by decide) (by simp) (by omega) (by rfl) (by rfl) ?_
      rintro A40 w40 f40 b40
      have qf40 := f40.cap
      have s40 := b40.size
      replace hw := hw.trans (b40.mono hw.size)
      replace f_2 := f_2.u b40
      replace k1 := k1.u b40
      replace k2 := k2.u b40
      replace k3 := k3.u b40
      replace f := f.u b40
      replace f18 := f18.u b40
      replace f18_1 := f18_1.u b40
      replace f18_2 := f18_2.u b40
      replace f14_1 := f14_1.u b40
      replace f14 := f14.u b40
      replace f_1 := f_1.u b40
      replace f37 := f37.u b40
      refine wl_call rfl (C_opsBytesN _ e4 f40.to_RO (by rfl) (by omega) (by simp)) ?_
      rintro v41 w41 ⟨A41, ⟨c41, ⟨rfl, ⟨f41, b41⟩⟩⟩⟩
      have qf41 := f41.cap
      have s41 := b41.size
      replace hw := hw.trans (b41.mono hw.size)
      replace f37 := f37.u b41
      replace f_1 := f_1.u b41
      replace f14 := f14.u b41
      replace f14_1 := f14_1.u b41
      replace f18_2 := f18_2.u b41
      replace f18_1 := f18_1.u b41
      replace f18 := f18.u b41
      replace f := f.u b41
      replace k3 := k3.u b41
      replace k2 := k2.u b41
      replace k1 := k1.u b41
      replace f_2 := f_2.u b41
      replace f40 := f40.u b41
      refine wl_p (fun _ => o_move rfl) ?_
      refine wl_p (fun _ => o_ext20 rfl) ?_
      refine wl_p (fun _ => o_ext21 rfl) ?_
      refine wl_p (fun _ => o_assign rfl) ?_
      refine wl_p (fun _ => o_assign rfl) ?_
      refine wl_nil ?_
      refine rk_seq ?_
      refine rk_region ?_
      refine wl_call rfl (C_opsReadN _ e5 (Rd.nil_) (by rfl) (by simp)) ?_
      rintro v45 w45 ⟨A45, ⟨c45, ⟨rfl, ⟨f45, b45⟩⟩⟩⟩
      have qf45 := f45.cap
      have s45 := b45.size
      replace hw := hw.trans (b45.mono hw.size)
      replace f40 := f40.u b45
      replace f_2 := f_2.u b45
      replace k1 := k1.u b45
      replace k2 := k2.u b45
      replace k3 := k3.u b45
      replace f := f.u b45
      replace f18 := f18.u b45
      replace f18_1 := f18_1.u b45
      replace f18_2 := f18_2.u b45
      replace f14_1 := f14_1.u b45
      replace f14 := f14.u b45
      replace f_1 := f_1.u b45
      replace f37 := f37.u b45
      replace f41 := f41.u b45
      refine wl_p (fun _ => o_move rfl) ?_
      refine wl_p (fun _ => o_ext20 rfl) ?_
      refine wl_p (fun _ => o_ext21 rfl) ?_
      refine wl_p (fun _ => o_assign rfl) ?_
      refine wl_p (fun _ => o_assign rfl) ?_
      refine wl_nil ?_
      refine rk_seq ?_
      refine rk_region ?_
      refine wl_litB [0] Try.u8 Try.sizeOf5 Try.zeroValue5 (by rfl) rfl rfl (by rfl) (by rfl) (by rfl) ?_
      rintro A49 w49 f49 b49
      have qf49 := f49.cap
      have s49 := b49.size
      replace hw := hw.trans (b49.mono hw.size)
      replace f41 := f41.u b49
      replace f37 := f37.u b49
      replace f_1 := f_1.u b49
      replace f14 := f14.u b49
      replace f14_1 := f14_1.u b49
      replace f18_2 := f18_2.u b49
      replace f18_1 := f18_1.u b49
      replace f18 := f18.u b49
      replace f := f.u b49
      replace k3 := k3.u b49
      replace k2 := k2.u b49
      replace k1 := k1.u b49
      replace f_2 := f_2.u b49
      replace f40 := f40.u b49
      replace f45 := f45.u b49
      refine wl_call rfl (C_opsReadN _ e6 f49.to_Rd (by rfl) (by omega)) ?_
      rintro v50 w50 ⟨A50, ⟨c50, ⟨rfl, ⟨f50, b50⟩⟩⟩⟩
      have qf50 := f50.cap
      have s50 := b50.size
      replace hw := hw.trans (b50.mono hw.size)
      replace f45 := f45.u b50
      replace f40 := f40.u b50
      replace f_2 := f_2.u b50
      replace k1 := k1.u b50
      replace k2 := k2.u b50
      replace k3 := k3.u b50
      replace f := f.u b50
      replace f18 := f18.u b50
      replace f18_1 := f18_1.u b50
      replace f18_2 := f18_2.u b50
      replace f14_1 := f14_1.u b50
      replace f14 := f14.u b50
      replace f_1 := f_1.u b50
      replace f37 := f37.u b50
      replace f41 := f41.u b50
      replace f49 := f49.u b50
      refine wl_p (fun _ => o_move rfl) ?_
      refine wl_p (fun _ => o_ext20 rfl) ?_
      refine wl_p (fun _ => o_ext21 rfl) ?_
      refine wl_p (fun _ => o_assign rfl) ?_
      refine wl_p (fun _ => o_assign rfl) ?_
      refine wl_nil ?_
      refine rk_seq ?_
      refine rk_region ?_
      dsimp only [List.append]
      refine wl_call rfl (C_lives22 _) ?_
      rintro v53 w53 ⟨rfl, b53⟩
      have s53 := b53.size
      replace hw := hw.trans (b53.mono hw.size)
      replace f49 := f49.u b53
      replace f41 := f41.u b53
      replace f37 := f37.u b53
      replace f_1 := f_1.u b53
      replace f14 := f14.u b53
      replace f14_1 := f14_1.u b53
      replace f18_2 := f18_2.u b53
      replace f18_1 := f18_1.u b53
      replace f18 := f18.u b53
      replace f := f.u b53
      replace k3 := k3.u b53
      replace k2 := k2.u b53
      replace k1 := k1.u b53
      replace f_2 := f_2.u b53
      replace f40 := f40.u b53
      replace f45 := f45.u b53
      replace f50 := f50.u b53
      refine wl_p (fun _ => o_move rfl) ?_
      refine wl_p (fun _ => o_move rfl) ?_
      refine wl_p (fun _ => o_pick_t rfl rfl) ?_
      refine wl_p (fun _ => o_move rfl) ?_
      refine wl_p (fun _ => o_move rfl) ?_
      refine wl_p (fun _ => o_not rfl) ?_
      refine wl_p (fun _ => o_pick_t rfl rfl) ?_
      refine wl_p (fun _ => o_move rfl) ?_
      refine wl_p (fun _ => o_move rfl) ?_
      refine wl_p (fun _ => o_eq rfl rfl) ?_
      refine wl_p (fun _ => o_pick_t rfl rfl) ?_
      refine wl_p (fun _ => o_move rfl) ?_
      refine wl_p (fun _ => o_move rfl) ?_
      refine wl_p (fun _ => o_len (t := 23) Try.underlying23 rfl) ?_
      refine wl_p (fun _ => o_gt rfl rfl) ?_
      refine wl_p (fun _ => o_pick_t rfl rfl) ?_
      refine wl_p (fun _ => o_move rfl) ?_
      refine wl_know 70 true rfl (decide_eq_true (by omega)) ?_
      refine wl_p (fun _ => o_move rfl) ?_
      refine wl_p (fun _ => (o_iaddrA1 (0) Try.underlying23 Try.sizeOf5 rfl rfl (by omega) (f41.some_ (by omega)) (by omega))) ?_
      refine wl_r (o_loadB Try.isAgg5 rfl f41.to_Rd (by omega)) ?_
      refine wl_p (fun _ => o_eq rfl rfl) ?_
      refine wl_p (fun _ => o_pick_t rfl rfl) ?_
      refine wl_p (fun _ => o_move rfl) ?_
      have hl0 : 0 < bs.length := by omega
      have hl1 : 1 < bs.length := by omega
      rw [show decide ((bs[0].toNat : Int) = 1) = true by rw [hb0 hl0]; rfl]
      refine wl_p (fun _ => o_move rfl) ?_
      refine wl_p (fun _ => (o_iaddrA1 (1) Try.underlying23 Try.sizeOf5 rfl rfl (by omega) (f41.some_ (by omega)) (by omega))) ?_
      refine wl_r (o_loadB Try.isAgg5 rfl f41.to_Rd (by omega)) ?_
      refine wl_p (fun _ => o_eq rfl rfl) ?_
      refine wl_p (fun _ => o_pick_t rfl rfl) ?_
      refine wl_p (fun _ => o_move rfl) ?_
      rw [show decide ((bs[1].toNat : Int) = 2) = true by rw [hb1 hl1]; rfl]
      refine wl_p (fun _ => o_move rfl) ?_
      refine wl_p (fun _ => o_eq rfl rfl) ?_
      refine wl_p (fun _ => o_pick_t rfl rfl) ?_
      refine wl_p (fun _ => o_move rfl) ?_
      refine wl_p (fun _ => o_move rfl) ?_
      refine wl_p (fun _ => o_eq rfl rfl) ?_
      refine wl_p (fun _ => o_pick_t rfl rfl) ?_
      refine wl_p (fun _ => o_move rfl) ?_
      refine wl_p (fun _ => o_move rfl) ?_
      refine wl_p (fun _ => o_len (t := 22) Try.underlying22 rfl) ?_
      refine wl_p (fun _ => o_eq rfl rfl) ?_
      refine wl_p (fun _ => o_pick_t rfl rfl) ?_
      refine wl_p (fun _ => o_move rfl) ?_
      refine wl_p (fun _ => (o_bldOpz)) ?_
      refine wl_call rfl (C_opsCheckBad _ (by omega) (by omega) (by rfl)) ?_
      rintro v97 w97 ⟨rfl, b97⟩
      have s97 := b97.size
      replace hw := hw.trans (b97.mono hw.size)
      replace f50 := f50.u b97
      replace f45 := f45.u b97
      replace f40 := f40.u b97
      replace f_2 := f_2.u b97
      replace k1 := k1.u b97
      replace k2 := k2.u b97
      replace k3 := k3.u b97
      replace f := f.u b97
      replace f18 := f18.u b97
      replace f18_1 := f18_1.u b97
      replace f18_2 := f18_2.u b97
      replace f14_1 := f14_1.u b97
      replace f14 := f14.u b97
      replace f_1 := f_1.u b97
      replace f37 := f37.u b97
      replace f41 := f41.u b97
      replace f49 := f49.u b97
      refine wl_p (fun _ => o_eq rfl rfl) ?_
      refine wl_p (fun _ => o_pick_t rfl rfl) ?_
      refine wl_p (fun _ => o_move rfl) ?_
      refine wl_litC [107] Try.u8 Try.sizeOf5 Try.zeroValue5 (by rfl) rfl rfl (by rfl) (by rfl) (by rfl) ?_
      rintro A101 w101 f101 b101
      have s101 := b101.size
      replace hw := hw.trans (b101.mono hw.size)
      replace f49 := f49.u b101
      replace f41 := f41.u b101
      replace f37 := f37.u b101
      replace f_1 := f_1.u b101
      replace f14 := f14.u b101
      replace f14_1 := f14_1.u b101
      replace f18_2 := f18_2.u b101
      replace f18_1 := f18_1.u b101
      replace f18 := f18.u b101
      replace f := f.u b101
      replace k3 := k3.u b101
      replace k2 := k2.u b101
      replace k1 := k1.u b101
      replace f_2 := f_2.u b101
      replace f40 := f40.u b101
      replace f45 := f45.u b101
      replace f50 := f50.u b101
      refine wl_litC [118] Try.u8 Try.sizeOf5 Try.zeroValue5 (by rfl) rfl rfl (by rfl) (by rfl) (by rfl) ?_
      rintro A103 w103 f103 b103
      have s103 := b103.size
      replace hw := hw.trans (b103.mono hw.size)
      replace f50 := f50.u b103
      replace f45 := f45.u b103
      replace f40 := f40.u b103
      replace f_2 := f_2.u b103
      replace k1 := k1.u b103
      replace k2 := k2.u b103
      replace k3 := k3.u b103
      replace f := f.u b103
      replace f18 := f18.u b103
      replace f18_1 := f18_1.u b103
      replace f18_2 := f18_2.u b103
      replace f14_1 := f14_1.u b103
      replace f14 := f14.u b103
      replace f_1 := f_1.u b103
      replace f37 := f37.u b103
      replace f41 := f41.u b103
      replace f49 := f49.u b103
      replace f101 := f101.u b103
      refine wl_p (fun _ => (o_bldOp012 rfl rfl rfl)) ?_
      refine wl_call rfl (C_opsCheckBad _ (by omega) (by omega) (by rfl)) ?_
      rintro v106 w106 ⟨rfl, b106⟩
      have s106 := b106.size
      replace hw := hw.trans (b106.mono hw.size)
      replace f101 := f101.u b106
      replace f49 := f49.u b106
      replace f41 := f41.u b106
      replace f37 := f37.u b106
      replace f_1 := f_1.u b106
      replace f14 := f14.u b106
      replace f14_1 := f14_1.u b106
      replace f18_2 := f18_2.u b106
      replace f18_1 := f18_1.u b106
      replace f18 := f18.u b106
      replace f := f.u b106
      replace k3 := k3.u b106
      replace k2 := k2.u b106
      replace k1 := k1.u b106
      replace f_2 := f_2.u b106
      replace f40 := f40.u b106
      replace f45 := f45.u b106
      replace f50 := f50.u b106
      replace f103 := f103.u b106
      refine wl_p (fun _ => o_eq rfl rfl) ?_
      refine wl_p (fun _ => o_pick_t rfl rfl) ?_
      refine wl_p (fun _ => o_move rfl) ?_
      refine wl_p (fun _ => (o_buildg [_, _, _] Try.underlying27 Try.zeroValue27 (by rfl) (by rfl) rfl (by rfl) (by rfl) (fun _ => by kernel_rfl))) ?_
      refine wl_call rfl (C_checkStateBad _ (RI.nil_) (RKs.nil_) (RKs.nil_) (by rfl) (by rfl) (by rfl) (by simp) (by simp) (by simp) (by simp [LtI]) (by omega)) ?_
      rintro v111 w111 ⟨rfl, b111⟩
      have s111 := b111.size
      replace hw := hw.trans (b111.mono hw.size)
      replace f103 := f103.u b111
      replace f50 := f50.u b111
      replace f45 := f45.u b111
      replace f40 := f40.u b111
      replace f_2 := f_2.u b111
      replace k1 := k1.u b111
      replace k2 := k2.u b111
      replace k3 := k3.u b111
      replace f := f.u b111
      replace f18 := f18.u b111
      replace f18_1 := f18_1.u b111
      replace f18_2 := f18_2.u b111
      replace f14_1 := f14_1.u b111
      replace f14 := f14.u b111
      replace f_1 := f_1.u b111
      replace f37 := f37.u b111
      replace f41 := f41.u b111
      replace f49 := f49.u b111
      replace f101 := f101.u b111
      refine wl_p (fun _ => o_eq rfl rfl) ?_
      refine wl_p (fun _ => o_pick_t rfl rfl) ?_
      refine wl_p (fun _ => o_move rfl) ?_
      refine wl_call rfl (C_alone _) ?_
      rintro v115 w115 ⟨B115, ⟨C115, ⟨rfl, ⟨f115, ⟨f115_1, b115⟩⟩⟩⟩⟩
      have s115 := b115.size
      replace hw := hw.trans (b115.mono hw.size)
      replace f101 := f101.u b115
      replace f49 := f49.u b115
      replace f41 := f41.u b115
      replace f37 := f37.u b115
      replace f_1 := f_1.u b115
      replace f14 := f14.u b115
      replace f14_1 := f14_1.u b115
      replace f18_2 := f18_2.u b115
      replace f18_1 := f18_1.u b115
      replace f18 := f18.u b115
      replace f := f.u b115
      replace k3 := k3.u b115
      replace k2 := k2.u b115
      replace k1 := k1.u b115
      replace f_2 := f_2.u b115
      replace f40 := f40.u b115
      replace f45 := f45.u b115
      replace f50 := f50.u b115
      replace f103 := f103.u b115
      refine wl_call rfl (C_checkStateOk _ (RI.nil_) f115.to_RKs f115_1.to_RKs (by rfl) (by rfl) (by rfl) (by simp) (by simp) (by simp) (by simp [LtI]) (by omega)) ?_
      rintro v116 w116 ⟨rfl, b116⟩
      have s116 := b116.size
      replace hw := hw.trans (b116.mono hw.size)
      replace f103 := f103.u b116
      replace f50 := f50.u b116
      replace f45 := f45.u b116
      replace f40 := f40.u b116
      replace f_2 := f_2.u b116
      replace k1 := k1.u b116
      replace k2 := k2.u b116
      replace k3 := k3.u b116
      replace f := f.u b116
      replace f18 := f18.u b116
      replace f18_1 := f18_1.u b116
      replace f18_2 := f18_2.u b116
      replace f14_1 := f14_1.u b116
      replace f14 := f14.u b116
      replace f_1 := f_1.u b116
      replace f37 := f37.u b116
      replace f41 := f41.u b116
      replace f49 := f49.u b116
      replace f101 := f101.u b116
      replace f115_1 := f115_1.u b116
      replace f115 := f115.u b116
      refine wl_p (fun _ => o_eq rfl rfl) ?_
      refine wl_p (fun _ => o_pick_t rfl rfl) ?_
      refine wl_p (fun _ => o_move rfl) ?_
      refine wl_call rfl (C_a _) ?_
      rintro v120 w120 ⟨rfl, b120⟩
      have s120 := b120.size
      replace hw := hw.trans (b120.mono hw.size)
      replace f115 := f115.u b120
      replace f115_1 := f115_1.u b120
      replace f101 := f101.u b120
      replace f49 := f49.u b120
      replace f41 := f41.u b120
      replace f37 := f37.u b120
      replace f_1 := f_1.u b120
      replace f14 := f14.u b120
      replace f14_1 := f14_1.u b120
      replace f18_2 := f18_2.u b120
      replace f18_1 := f18_1.u b120
      replace f18 := f18.u b120
      replace f := f.u b120
      replace k3 := k3.u b120
      replace k2 := k2.u b120
      replace k1 := k1.u b120
      replace f_2 := f_2.u b120
      replace f40 := f40.u b120
      replace f45 := f45.u b120
      replace f50 := f50.u b120
      replace f103 := f103.u b120
      refine wl_litKs1 (by rfl) rfl (by rfl) ?_
      rintro A121 w121 f121 b121
      have qf121 := f121.cap
      have s121 := b121.size
      replace hw := hw.trans (b121.mono hw.size)
      replace f103 := f103.u b121
      replace f50 := f50.u b121
      replace f45 := f45.u b121
      replace f40 := f40.u b121
      replace f_2 := f_2.u b121
      replace k1 := k1.u b121
      replace k2 := k2.u b121
      replace k3 := k3.u b121
      replace f := f.u b121
      replace f18 := f18.u b121
      replace f18_1 := f18_1.u b121
      replace f18_2 := f18_2.u b121
      replace f14_1 := f14_1.u b121
      replace f14 := f14.u b121
      replace f_1 := f_1.u b121
      replace f37 := f37.u b121
      replace f41 := f41.u b121
      replace f49 := f49.u b121
      replace f101 := f101.u b121
      replace f115_1 := f115_1.u b121
      replace f115 := f115.u b121
      refine wl_call rfl (C_a _) ?_
      rintro v122 w122 ⟨rfl, b122⟩
      have s122 := b122.size
      replace hw := hw.trans (b122.mono hw.size)
      replace f115 := f115.u b122
      replace f115_1 := f115_1.u b122
      replace f101 := f101.u b122
      replace f49 := f49.u b122
      replace f41 := f41.u b122
      replace f37 := f37.u b122
      replace f_1 := f_1.u b122
      replace f14 := f14.u b122
      replace f14_1 := f14_1.u b122
      replace f18_2 := f18_2.u b122
      replace f18_1 := f18_1.u b122
      replace f18 := f18.u b122
      replace f := f.u b122
      replace k3 := k3.u b122
      replace k2 := k2.u b122
      replace k1 := k1.u b122
      replace f_2 := f_2.u b122
      replace f40 := f40.u b122
      replace f45 := f45.u b122
      replace f50 := f50.u b122
      replace f103 := f103.u b122
      replace f121 := f121.u b122
      refine wl_call rfl (C_member _ f121.to_RKs (by rfl) (by omega)) ?_
      rintro v123 w123 ⟨rfl, b123⟩
      have s123 := b123.size
      replace hw := hw.trans (b123.mono hw.size)
      replace f121 := f121.u b123
      replace f103 := f103.u b123
      replace f50 := f50.u b123
      replace f45 := f45.u b123
      replace f40 := f40.u b123
      replace f_2 := f_2.u b123
      replace k1 := k1.u b123
      replace k2 := k2.u b123
      replace k3 := k3.u b123
      replace f := f.u b123
      replace f18 := f18.u b123
      replace f18_1 := f18_1.u b123
      replace f18_2 := f18_2.u b123
      replace f14_1 := f14_1.u b123
      replace f14 := f14.u b123
      replace f_1 := f_1.u b123
      replace f37 := f37.u b123
      replace f41 := f41.u b123
      replace f49 := f49.u b123
      replace f101 := f101.u b123
      replace f115_1 := f115_1.u b123
      replace f115 := f115.u b123
      refine wl_p (fun _ => o_pick_t rfl rfl) ?_
      refine wl_p (fun _ => o_move rfl) ?_
      refine wl_call rfl (C_a _) ?_
      rintro v126 w126 ⟨rfl, b126⟩
      have s126 := b126.size
      replace hw := hw.trans (b126.mono hw.size)
      replace f115 := f115.u b126
      replace f115_1 := f115_1.u b126
      replace f101 := f101.u b126
      replace f49 := f49.u b126
      replace f41 := f41.u b126
      replace f37 := f37.u b126
      replace f_1 := f_1.u b126
      replace f14 := f14.u b126
      replace f14_1 := f14_1.u b126
      replace f18_2 := f18_2.u b126
      replace f18_1 := f18_1.u b126
      replace f18 := f18.u b126
      replace f := f.u b126
      replace k3 := k3.u b126
      replace k2 := k2.u b126
      replace k1 := k1.u b126
      replace f_2 := f_2.u b126
      replace f40 := f40.u b126
      replace f45 := f45.u b126
      replace f50 := f50.u b126
      replace f103 := f103.u b126
      replace f121 := f121.u b126
      refine wl_call rfl (C_b _) ?_
      rintro v127 w127 ⟨rfl, b127⟩
      have s127 := b127.size
      replace hw := hw.trans (b127.mono hw.size)
      replace f121 := f121.u b127
      replace f103 := f103.u b127
      replace f50 := f50.u b127
      replace f45 := f45.u b127
      replace f40 := f40.u b127
      replace f_2 := f_2.u b127
      replace k1 := k1.u b127
      replace k2 := k2.u b127
      replace k3 := k3.u b127
      replace f := f.u b127
      replace f18 := f18.u b127
      replace f18_1 := f18_1.u b127
      replace f18_2 := f18_2.u b127
      replace f14_1 := f14_1.u b127
      replace f14 := f14.u b127
      replace f_1 := f_1.u b127
      replace f37 := f37.u b127
      replace f41 := f41.u b127
      replace f49 := f49.u b127
      replace f101 := f101.u b127
      replace f115_1 := f115_1.u b127
      replace f115 := f115.u b127
      refine wl_call rfl (C_opsCompare _) ?_
      rintro v128 w128 ⟨rfl, b128⟩
      have s128 := b128.size
      replace hw := hw.trans (b128.mono hw.size)
      replace f115 := f115.u b128
      replace f115_1 := f115_1.u b128
      replace f101 := f101.u b128
      replace f49 := f49.u b128
      replace f41 := f41.u b128
      replace f37 := f37.u b128
      replace f_1 := f_1.u b128
      replace f14 := f14.u b128
      replace f14_1 := f14_1.u b128
      replace f18_2 := f18_2.u b128
      replace f18_1 := f18_1.u b128
      replace f18 := f18.u b128
      replace f := f.u b128
      replace k3 := k3.u b128
      replace k2 := k2.u b128
      replace k1 := k1.u b128
      replace f_2 := f_2.u b128
      replace f40 := f40.u b128
      replace f45 := f45.u b128
      replace f50 := f50.u b128
      replace f103 := f103.u b128
      replace f121 := f121.u b128
      refine wl_p (fun _ => o_eq rfl rfl) ?_
      refine wl_p (fun _ => o_pick_t rfl rfl) ?_
      refine wl_p (fun _ => o_move rfl) ?_
      refine wl_r (o_loadag Try.isAgg27 Try.sizeOf27 rfl f (by rfl)) ?_
      refine wl_r (o_loadag Try.isAgg27 Try.sizeOf27 rfl f (by rfl)) ?_
      refine wl_call rfl (C_opsSame _ f18.to_RI f18_1.to_RKs f18_2.to_RKs f18.to_RI f18_1.to_RKs f18_2.to_RKs rfl rfl rfl rfl rfl rfl (by simp) (by simp) (by simp) (by omega) (by simp) (by omega)) ?_
      rintro v134 w134 ⟨rfl, b134⟩
      have s134 := b134.size
      replace hw := hw.trans (b134.mono hw.size)
      replace f121 := f121.u b134
      replace f103 := f103.u b134
      replace f50 := f50.u b134
      replace f45 := f45.u b134
      replace f40 := f40.u b134
      replace f_2 := f_2.u b134
      replace k1 := k1.u b134
      replace k2 := k2.u b134
      replace k3 := k3.u b134
      replace f := f.u b134
      replace f18 := f18.u b134
      replace f18_1 := f18_1.u b134
      replace f18_2 := f18_2.u b134
      replace f14_1 := f14_1.u b134
      replace f14 := f14.u b134
      replace f_1 := f_1.u b134
      replace f37 := f37.u b134
      replace f41 := f41.u b134
      replace f49 := f49.u b134
      replace f101 := f101.u b134
      replace f115_1 := f115_1.u b134
      replace f115 := f115.u b134
      refine wl_p (fun _ => o_pick_t rfl rfl) ?_
      refine wl_p (fun _ => o_move rfl) ?_
      refine wl_call rfl (C_put _ (by simp) (by simp)) ?_
      rintro v137 w137 ⟨K137, ⟨c137, ⟨V137, ⟨d137, ⟨rfl, ⟨f137, ⟨i137, ⟨i137_1, ⟨f137_1, ⟨i137_2, ⟨i137_3, b137⟩⟩⟩⟩⟩⟩⟩⟩⟩⟩⟩
      have s137 := b137.size
      replace hw := hw.trans (b137.mono hw.size)
      replace f115 := f115.u b137
      replace f115_1 := f115_1.u b137
      replace f101 := f101.u b137
      replace f49 := f49.u b137
      replace f41 := f41.u b137
      replace f37 := f37.u b137
      replace f_1 := f_1.u b137
      replace f14 := f14.u b137
      replace f14_1 := f14_1.u b137
      replace f18_2 := f18_2.u b137
      replace f18_1 := f18_1.u b137
      replace f18 := f18.u b137
      replace f := f.u b137
      replace k3 := k3.u b137
      replace k2 := k2.u b137
      replace k1 := k1.u b137
      replace f_2 := f_2.u b137
      replace f40 := f40.u b137
      replace f45 := f45.u b137
      replace f50 := f50.u b137
      replace f103 := f103.u b137
      replace f121 := f121.u b137
      refine wl_call rfl (C_put _ (by simp) (by simp)) ?_
      rintro v138 w138 ⟨K138, ⟨c138, ⟨V138, ⟨d138, ⟨rfl, ⟨f138, ⟨i138, ⟨i138_1, ⟨f138_1, ⟨i138_2, ⟨i138_3, b138⟩⟩⟩⟩⟩⟩⟩⟩⟩⟩⟩
      have s138 := b138.size
      replace hw := hw.trans (b138.mono hw.size)
      replace f121 := f121.u b138
      replace f103 := f103.u b138
      replace f50 := f50.u b138
      replace f45 := f45.u b138
      replace f40 := f40.u b138
      replace f_2 := f_2.u b138
      replace k1 := k1.u b138
      replace k2 := k2.u b138
      replace k3 := k3.u b138
      replace f := f.u b138
      replace f18 := f18.u b138
      replace f18_1 := f18_1.u b138
      replace f18_2 := f18_2.u b138
      replace f14_1 := f14_1.u b138
      replace f14 := f14.u b138
      replace f_1 := f_1.u b138
      replace f37 := f37.u b138
      replace f41 := f41.u b138
      replace f49 := f49.u b138
      replace f101 := f101.u b138
      replace f115_1 := f115_1.u b138
      replace f115 := f115.u b138
      replace f137_1 := f137_1.u b138
      replace f137 := f137.u b138
      refine wl_call rfl (C_sameOp _ f137.to_Rd f137_1.to_Rd f138.to_Rd f138_1.to_Rd rfl rfl rfl rfl) ?_
      rintro v139 w139 ⟨rfl, b139⟩
      have s139 := b139.size
      replace hw := hw.trans (b139.mono hw.size)
      replace f137 := f137.u b139
      replace f137_1 := f137_1.u b139
      replace f115 := f115.u b139
      replace f115_1 := f115_1.u b139
      replace f101 := f101.u b139
      replace f49 := f49.u b139
      replace f41 := f41.u b139
      replace f37 := f37.u b139
      replace f_1 := f_1.u b139
      replace f14 := f14.u b139
      replace f14_1 := f14_1.u b139
      replace f18_2 := f18_2.u b139
      replace f18_1 := f18_1.u b139
      replace f18 := f18.u b139
      replace f := f.u b139
      replace k3 := k3.u b139
      replace k2 := k2.u b139
      replace k1 := k1.u b139
      replace f_2 := f_2.u b139
      replace f40 := f40.u b139
      replace f45 := f45.u b139
      replace f50 := f50.u b139
      replace f103 := f103.u b139
      replace f121 := f121.u b139
      replace f138_1 := f138_1.u b139
      replace f138 := f138.u b139
      refine wl_p (fun _ => o_pick_t rfl rfl) ?_
      refine wl_p (fun _ => o_move rfl) ?_
      refine wl_p (fun _ => o_pick_t rfl rfl) ?_
      refine wl_p (fun _ => o_assign rfl) ?_
      refine wl_nil ?_
      refine ret1 rfl rfl ?_
      exact ⟨rfl, hw⟩
    · refine wl_call rfl (C_b _) ?_ (hq := .inr fun _ _ h => grown_of_below h.2 _)
      rintro v30 w30 ⟨rfl, b30⟩
      simp only [drew_size] at b30
      have s30 := b30.size
      simp only [drew_size] at s30
      replace hw := hw.trans (b30.mono hw.size)
      replace hw2 := hw2.trans (b30.mono hw2.size)
      replace f_1 := f_1.u b30
      replace f14 := f14.u b30
      replace f14_1 := f14_1.u b30
      replace f18_2 := f18_2.u b30
      replace f18_1 := f18_1.u b30
      replace f18 := f18.u b30
      replace f := f.u b30
      replace k3 := k3.u b30
      replace k2 := k2.u b30
      replace k1 := k1.u b30
      refine wl_fork2j (m := 3) (L := 790) (C := 262) (n := 9) (k1 := 2) (k2 := 8) _ [0, 0, 2, 4, 15, 16, 32, 32, 0, 383, 1023] [0, 0, 2, 6, 15, 31, 63, 63, 0, 383, 1023] [2, 3] [8, 2, 3, 4, 5, 6, 7, 9, 10] [9, 10] [(.p, 3), (.f 15 790 262, 7)] [(.c, 2), (.p, 3), (.l, 4), (.p, 5), (.p, 6), (.p, 7), (.l, 9), (.p, 10)] [(.l, 9), (.p, 10)] (by kernel_rfl) (by kernel_rfl) (by kernel_rfl) (by kernel_rfl) (by kernel_rfl) hj (fun hj => ?_) (fun hj => ?_) <;> dsimp only [inOrder, nthOp]
      · refine wl_call rfl (C_b _) ?_ (hq := .inr fun _ _ h => grown_of_below h.2 _)
        rintro v31 w31 ⟨rfl, b31⟩
        have s31 := b31.size
        replace hw := hw.trans (b31.mono hw.size)
        replace hw2 := hw2.trans (b31.mono hw2.size)
        replace k1 := k1.u b31
        replace k2 := k2.u b31
        replace k3 := k3.u b31
        replace f := f.u b31
        replace f18 := f18.u b31
        replace f18_1 := f18_1.u b31
        replace f18_2 := f18_2.u b31
        replace f14_1 := f14_1.u b31
        replace f14 := f14.u b31
        replace f_1 := f_1.u b31
        refine wl_p (fun _ => (o_bldOp03 rfl rfl)) ?_
        refine wl_fork2j (m := 15) (L := 790) (C := 262) (n := 7) (k1 := 4) (k2 := 8) _ [0, 0, 2, 4, 15, 16, 32, 32, 0, 383, 1023] [0, 0, 2, 6, 15, 31, 63, 63, 0, 383, 1023] [4, 5, 6, 7, 8, 9, 10] [8, 4, 5, 6, 7, 9, 10] [9, 10] [(.p, 5), (.p, 6), (.p, 7), (.c, 8), (.l, 9), (.p, 10)] [(.l, 4), (.p, 5), (.p, 6), (.p, 7), (.l, 9), (.p, 10)] [(.l, 9), (.p, 10)] (by kernel_rfl) (by kernel_rfl) (by kernel_rfl) (by kernel_rfl) (by kernel_rfl) hj (fun hj => ?_) (fun hj => ?_) <;> dsimp only [inOrder, nthOp]
        · refine wl_call rfl (C_opsStepN _ e3 k1.to_RI k2.to_RKs k3.to_RKs (Rd.nil_) (Rd.nil_) rfl rfl rfl (by rfl) (by rfl) (by simp) (by simp) (by simp) (by simp [LtI]) (by simp) (by simp)) ?_
          rintro v33 w33 ⟨A33, ⟨c33, ⟨B33, ⟨d33, ⟨C33, ⟨e33, ⟨rfl, ⟨f33, ⟨f33_1, ⟨f33_2, b33⟩⟩⟩⟩⟩⟩⟩⟩⟩⟩
          have qf33 := f33.cap
          have qf33_1 := f33_1.cap
          have qf33_2 := f33_2.cap
          have s33 := b33.size
          replace hw := hw.trans (b33.mono hw.size)
          replace hw2 := hw2.trans (b33.mono hw2.size)
          replace f_1 := f_1.u b33
          replace f14 := f14.u b33
          replace f14_1 := f14_1.u b33
          replace f18_2 := f18_2.u b33
          replace f18_1 := f18_1.u b33
          replace f18 := f18.u b33
          replace f := f.u b33
          replace k3 := k3.u b33
          replace k2 := k2.u b33
          replace k1 := k1.u b33
          refine wl_p (fun _ => o_move rfl) ?_
          refine wl_p (fun _ => o_ext20 rfl) ?_
          refine wl_p (fun _ => o_ext21 rfl) ?_
          refine wl_allocg [_, _, _] Try.zeroValue27 (by rfl) ?_
          rintro g5 w5 f5 b5 i5 i5_1
          have s5 := b5.size
          replace hw := hw.trans (b5.mono hw.size)
          replace hw2 := hw2.trans (b5.mono hw2.size)
          replace k1 := k1.u b5
          replace k2 := k2.u b5
          replace k3 := k3.u b5
          replace f := f.u b5
          replace f18 := f18.u b5
          replace f18_1 := f18_1.u b5
          replace f18_2 := f18_2.u b5
          replace f14_1 := f14_1.u b5
          replace f14 := f14.u b5
          replace f_1 := f_1.u b5
          replace f33_2 := f33_2.u b5
          replace f33_1 := f33_1.u b5
          replace f33 := f33.u b5
          exact wl_tof hj (Fr.le_of (by kernel_rfl) (by kernel_rfl) (by repeat' constructor)) ⟨g5, _, _, _, _, _, _, rfl, f5, by omega, by omega, hw2⟩
        · refine wl_allocg [_, _, _] Try.zeroValue27 (by rfl) ?_
          rintro g5 w5 f5 b5 i5 i5_1
          have s5 := b5.size
          replace hw := hw.trans (b5.mono hw.size)
          replace hw2 := hw2.trans (b5.mono hw2.size)
          replace f_1 := f_1.u b5
          replace f14 := f14.u b5
          replace f14_1 := f14_1.u b5
          replace f18_2 := f18_2.u b5
          replace f18_1 := f18_1.u b5
          replace f18 := f18.u b5
          replace f := f.u b5
          replace k3 := k3.u b5
          replace k2 := k2.u b5
          replace k1 := k1.u b5
          refine wl_call rfl (C_opsStepN _ e3 k1.to_RI k2.to_RKs k3.to_RKs (Rd.nil_) (Rd.nil_) rfl rfl rfl (by rfl) (by rfl) (by simp) (by simp) (by simp) (by simp [LtI]) (by simp) (by simp)) ?_
          rintro v33 w33 ⟨A33, ⟨c33, ⟨B33, ⟨d33, ⟨C33, ⟨e33, ⟨rfl, ⟨f33, ⟨f33_1, ⟨f33_2, b33⟩⟩⟩⟩⟩⟩⟩⟩⟩⟩
          have qf33 := f33.cap
          have qf33_1 := f33_1.cap
          have qf33_2 := f33_2.cap
          have s33 := b33.size
          replace hw := hw.trans (b33.mono hw.size)
          replace hw2 := hw2.trans (b33.mono hw2.size)
          replace k1 := k1.u b33
          replace k2 := k2.u b33
          replace k3 := k3.u b33
          replace f := f.u b33
          replace f18 := f18.u b33
          replace f18_1 := f18_1.u b33
          replace f18_2 := f18_2.u b33
          replace f14_1 := f14_1.u b33
          replace f14 := f14.u b33
          replace f_1 := f_1.u b33
          replace f5 := f5.u b33
          refine wl_p (fun _ => o_move rfl) ?_
          refine wl_p (fun _ => o_ext20 rfl) ?_
          refine wl_p (fun _ => o_ext21 rfl) ?_
          exact wl_tof hj (Fr.le_of (by kernel_rfl) (by kernel_rfl) (by repeat' constructor)) ⟨g5, _, _, _, _, _, _, rfl, f5, by omega, by omega, hw2⟩
      · refine wl_allocg [_, _, _] Try.zeroValue27 (by rfl) ?_
        rintro g5 w5 f5 b5 i5 i5_1
        have s5 := b5.size
        replace hw := hw.trans (b5.mono hw.size)
        replace hw2 := hw2.trans (b5.mono hw2.size)
        replace k1 := k1.u b5
        replace k2 := k2.u b5
        replace k3 := k3.u b5
        replace f := f.u b5
        replace f18 := f18.u b5
        replace f18_1 := f18_1.u b5
        replace f18_2 := f18_2.u b5
        replace f14_1 := f14_1.u b5
        replace f14 := f14.u b5
        replace f_1 := f_1.u b5
        refine wl_call rfl (C_b _) ?_ (hq := .inr fun _ _ h => grown_of_below h.2 _)
        rintro v31 w31 ⟨rfl, b31⟩
        have s31 := b31.size
        replace hw := hw.trans (b31.mono hw.size)
        replace hw2 := hw2.trans (b31.mono hw2.size)
        replace f_1 := f_1.u b31
        replace f14 := f14.u b31
        replace f14_1 := f14_1.u b31
        replace f18_2 := f18_2.u b31
        replace f18_1 := f18_1.u b31
        replace f18 := f18.u b31
        replace f := f.u b31
        replace k3 := k3.u b31
        replace k2 := k2.u b31
        replace k1 := k1.u b31
        replace f5 := f5.u b31
        refine wl_p (fun _ => (o_bldOp03 rfl rfl)) ?_
        refine wl_call rfl (C_opsStepN _ e3 k1.to_RI k2.to_RKs k3.to_RKs (Rd.nil_) (Rd.nil_) rfl rfl rfl (by rfl) (by rfl) (by simp) (by simp) (by simp) (by simp [LtI]) (by simp) (by simp)) ?_
        rintro v33 w33 ⟨A33, ⟨c33, ⟨B33, ⟨d33, ⟨C33, ⟨e33, ⟨rfl, ⟨f33, ⟨f33_1, ⟨f33_2, b33⟩⟩⟩⟩⟩⟩⟩⟩⟩⟩
        have qf33 := f33.cap
        have qf33_1 := f33_1.cap
        have qf33_2 := f33_2.cap
        have s33 := b33.size
        replace hw := hw.trans (b33.mono hw.size)
        replace hw2 := hw2.trans (b33.mono hw2.size)
        replace f5 := f5.u b33
        replace k1 := k1.u b33
        replace k2 := k2.u b33
        replace k3 := k3.u b33
        replace f := f.u b33
        replace f18 := f18.u b33
        replace f18_1 := f18_1.u b33
        replace f18_2 := f18_2.u b33
        replace f14_1 := f14_1.u b33
        replace f14 := f14.u b33
        replace f_1 := f_1.u b33
        refine wl_p (fun _ => o_move rfl) ?_
        refine wl_p (fun _ => o_ext20 rfl) ?_
        refine wl_p (fun _ => o_ext21 rfl) ?_
        exact wl_tof hj (Fr.le_of (by kernel_rfl) (by kernel_rfl) (by repeat' constructor)) ⟨g5, _, _, _, _, _, _, rfl, f5, by omega, by omega, hw2⟩
    · refine wl_allocg [_, _, _] Try.zeroValue27 (by rfl) ?_
      rintro g5 w5 f5 b5 i5 i5_1
      simp only [drew_size] at b5
      simp only [drew_size] at i5
      have s5 := b5.size
      simp only [drew_size] at s5
      replace hw := hw.trans (b5.mono hw.size)
      replace hw2 := hw2.trans (b5.mono hw2.size)
      replace f_1 := f_1.u b5
      replace f14 := f14.u b5
      replace f14_1 := f14_1.u b5
      replace f18_2 := f18_2.u b5
      replace f18_1 := f18_1.u b5
      replace f18 := f18.u b5
      replace f := f.u b5
      replace k3 := k3.u b5
      replace k2 := k2.u b5
      replace k1 := k1.u b5
      refine wl_call rfl (C_b _) ?_ (hq := .inr fun _ _ h => grown_of_below h.2 _)
      rintro v30 w30 ⟨rfl, b30⟩
      have s30 := b30.size
      replace hw := hw.trans (b30.mono hw.size)
      replace hw2 := hw2.trans (b30.mono hw2.size)
      replace k1 := k1.u b30
      replace k2 := k2.u b30
      replace k3 := k3.u b30
      replace f := f.u b30
      replace f18 := f18.u b30
      replace f18_1 := f18_1.u b30
      replace f18_2 := f18_2.u b30
      replace f14_1 := f14_1.u b30
      replace f14 := f14.u b30
      replace f_1 := f_1.u b30
      replace f5 := f5.u b30
      refine wl_call rfl (C_b _) ?_ (hq := .inr fun _ _ h => grown_of_below h.2 _)
      rintro v31 w31 ⟨rfl, b31⟩
      have s31 := b31.size
      replace hw := hw.trans (b31.mono hw.size)
      replace hw2 := hw2.trans (b31.mono hw2.size)
      replace f5 := f5.u b31
      replace f_1 := f_1.u b31
      replace f14 := f14.u b31
      replace f14_1 := f14_1.u b31
      replace f18_2 := f18_2.u b31
      replace f18_1 := f18_1.u b31
      replace f18 := f18.u b31
      replace f := f.u b31
      replace k3 := k3.u b31
      replace k2 := k2.u b31
      replace k1 := k1.u b31
      refine wl_p (fun _ => (o_bldOp03 rfl rfl)) ?_
      refine wl_call rfl (C_opsStepN _ e3 k1.to_RI k2.to_RKs k3.to_RKs (Rd.nil_) (Rd.nil_) rfl rfl rfl (by rfl) (by rfl) (by simp) (by simp) (by simp) (by simp [LtI]) (by simp) (by simp)) ?_
      rintro v33 w33 ⟨A33, ⟨c33, ⟨B33, ⟨d33, ⟨C33, ⟨e33, ⟨rfl, ⟨f33, ⟨f33_1, ⟨f33_2, b33⟩⟩⟩⟩⟩⟩⟩⟩⟩⟩
      have qf33 := f33.cap
      have qf33_1 := f33_1.cap
      have qf33_2 := f33_2.cap
      have s33 := b33.size
      replace hw := hw.trans (b33.mono hw.size)
      replace hw2 := hw2.trans (b33.mono hw2.size)
      replace k1 := k1.u b33
      replace k2 := k2.u b33
      replace k3 := k3.u b33
      replace f := f.u b33
      replace f18 := f18.u b33
      replace f18_1 := f18_1.u b33
      replace f18_2 := f18_2.u b33
      replace f14_1 := f14_1.u b33
      replace f14 := f14.u b33
      replace f_1 := f_1.u b33
      replace f5 := f5.u b33
      refine wl_p (fun _ => o_move rfl) ?_
      refine wl_p (fun _ => o_ext20 rfl) ?_
      refine wl_p (fun _ => o_ext21 rfl) ?_
      exact wl_tof hj (Fr.le_of (by kernel_rfl) (by kernel_rfl) (by repeat' constructor)) ⟨g5, _, _, _, _, _, _, rfl, f5, by omega, by omega, hw2⟩
  · refine wl_call rfl (C_b _) ?_ (hq := .inr fun _ _ h => grown_of_below h.2 _)
    rintro v23 w23 ⟨rfl, b23⟩
    simp only [drew_size] at b23
    have s23 := b23.size
    simp only [drew_size] at s23
    replace hw := hw.trans (b23.mono hw.size)
    replace hw1 := hw1.trans (b23.mono hw1.size)
    replace f := f.u b23
    replace f18 := f18.u b23
    replace f18_1 := f18_1.u b23
    replace f18_2 := f18_2.u b23
    replace f14_1 := f14_1.u b23
    replace f14 := f14.u b23
    refine wl_fork2j (m := 3) (L := 398) (C := 134) (n := 8) (k1 := 2) (k2 := 7) _ [0, 0, 2, 7, 8, 16, 16, 0, 191, 511] [0, 0, 2, 7, 15, 31, 31, 0, 191, 511] [2] [7, 2, 3, 4, 5, 6, 8, 9] [8, 9] [(.f 7 398 134, 7)] [(.c, 2), (.l, 3), (.p, 4), (.p, 5), (.p, 6), (.l, 8), (.p, 9)] [(.l, 8), (.p, 9)] (by kernel_rfl) (by kernel_rfl) (by kernel_rfl) (by kernel_rfl) (by kernel_rfl) hj (fun hj => ?_) (fun hj => ?_) <;> dsimp only [inOrder, nthOp]
    · refine wl_call rfl (C_put _ (by simp) (by simp)) ?_ (hq := .inr fun _ _ h => grown_of_below h.choose_spec.choose_spec.choose_spec.choose_spec.2.2.2.2.2.2.2 _)
      rintro v24 w24 ⟨K24, ⟨c24, ⟨V24, ⟨d24, ⟨rfl, ⟨f24, ⟨i24, ⟨i24_1, ⟨f24_1, ⟨i24_2, ⟨i24_3, b24⟩⟩⟩⟩⟩⟩⟩⟩⟩⟩⟩
      have s24 := b24.size
      replace hw := hw.trans (b24.mono hw.size)
      replace hw1 := hw1.trans (b24.mono hw1.size)
      replace f14 := f14.u b24
      replace f14_1 := f14_1.u b24
      replace f18_2 := f18_2.u b24
      replace f18_1 := f18_1.u b24
      replace f18 := f18.u b24
      replace f := f.u b24
      refine wl_fork2j (m := 7) (L := 398) (C := 134) (n := 7) (k1 := 3) (k2 := 7) _ [0, 0, 2, 7, 8, 16, 16, 0, 191, 511] [0, 0, 2, 7, 15, 31, 31, 0, 191, 511] [3, 4, 5, 6, 7, 8, 9] [7, 3, 4, 5, 6, 8, 9] [8, 9] [(.p, 4), (.p, 5), (.p, 6), (.c, 7), (.l, 8), (.p, 9)] [(.l, 3), (.p, 4), (.p, 5), (.p, 6), (.l, 8), (.p, 9)] [(.l, 8), (.p, 9)] (by kernel_rfl) (by kernel_rfl) (by kernel_rfl) (by kernel_rfl) (by kernel_rfl) hj (fun hj => ?_) (fun hj => ?_) <;> dsimp only [inOrder, nthOp]
      · refine wl_call rfl (C_opsStepN _ e2 f18.to_RI f18_1.to_RKs f18_2.to_RKs f24.to_Rd f24_1.to_Rd rfl rfl rfl rfl rfl (by simp) (by simp) (by simp) (by simp [LtI]) (by simp) (by simp)) ?_
        rintro v25 w25 ⟨A25, ⟨c25, ⟨B25, ⟨d25, ⟨C25, ⟨e25, ⟨rfl, ⟨f25, ⟨f25_1, ⟨f25_2, b25⟩⟩⟩⟩⟩⟩⟩⟩⟩⟩
        have qf25 := f25.cap
        have qf25_1 := f25_1.cap
        have qf25_2 := f25_2.cap
        have s25 := b25.size
        replace hw := hw.trans (b25.mono hw.size)
        replace hw1 := hw1.trans (b25.mono hw1.size)
        replace f := f.u b25
        replace f18 := f18.u b25
        replace f18_1 := f18_1.u b25
        replace f18_2 := f18_2.u b25
        replace f14_1 := f14_1.u b25
        replace f14 := f14.u b25
        replace f24_1 := f24_1.u b25
        replace f24 := f24.u b25
        refine wl_p (fun _ => o_move rfl) ?_
        refine wl_p (fun _ => o_ext20 rfl) ?_
        refine wl_p (fun _ => o_ext21 rfl) ?_
        refine wl_allocg [_, _, _] Try.zeroValue27 (by rfl) ?_
        rintro g3 w3 f3 b3 i3 i3_1
        have s3 := b3.size
        replace hw := hw.trans (b3.mono hw.size)
        replace hw1 := hw1.trans (b3.mono hw1.size)
        replace f24 := f24.u b3
        replace f24_1 := f24_1.u b3
        replace f14 := f14.u b3
        replace f14_1 := f14_1.u b3
        replace f18_2 := f18_2.u b3
        replace f18_1 := f18_1.u b3
        replace f18 := f18.u b3
        replace f := f.u b3
        replace f25_2 := f25_2.u b3
        replace f25_1 := f25_1.u b3
        replace f25 := f25.u b3
        exact wl_tof hj (Fr.le_of (by kernel_rfl) (by kernel_rfl) (by repeat' constructor)) ⟨g3, _, _, _, _, _, _, rfl, f3, by omega, f25.to_RIT, f25_1.to_RKT, f25_2.to_RKT, hw1⟩
      · refine wl_allocg [_, _, _] Try.zeroValue27 (by rfl) ?_
        rintro g3 w3 f3 b3 i3 i3_1
        have s3 := b3.size
        replace hw := hw.trans (b3.mono hw.size)
        replace hw1 := hw1.trans (b3.mono hw1.size)
        replace f := f.u b3
        replace f18 := f18.u b3
        replace f18_1 := f18_1.u b3
        replace f18_2 := f18_2.u b3
        replace f14_1 := f14_1.u b3
        replace f14 := f14.u b3
        replace f24_1 := f24_1.u b3
        replace f24 := f24.u b3
        refine wl_call rfl (C_opsStepN _ e2 f18.to_RI f18_1.to_RKs f18_2.to_RKs f24.to_Rd f24_1.to_Rd rfl rfl rfl rfl rfl (by simp) (by simp) (by simp) (by simp [LtI]) (by simp) (by simp)) ?_
        rintro v25 w25 ⟨A25, ⟨c25, ⟨B25, ⟨d25, ⟨C25, ⟨e25, ⟨rfl, ⟨f25, ⟨f25_1, ⟨f25_2, b25⟩⟩⟩⟩⟩⟩⟩⟩⟩⟩
        have qf25 := f25.cap
        have qf25_1 := f25_1.cap
        have qf25_2 := f25_2.cap
        have s25 := b25.size
        replace hw := hw.trans (b25.mono hw.size)
        replace hw1 := hw1.trans (b25.mono hw1.size)
        replace f24 := f24.u b25
        replace f24_1 := f24_1.u b25
        replace f14 := f14.u b25
        replace f14_1 := f14_1.u b25
        replace f18_2 := f18_2.u b25
        replace f18_1 := f18_1.u b25
        replace f18 := f18.u b25
        replace f := f.u b25
        replace f3 := f3.u b25
        refine wl_p (fun _ => o_move rfl) ?_
        refine wl_p (fun _ => o_ext20 rfl) ?_
        refine wl_p (fun _ => o_ext21 rfl) ?_
        exact wl_tof hj (Fr.le_of (by kernel_rfl) (by kernel_rfl) (by repeat' constructor)) ⟨g3, _, _, _, _, _, _, rfl, f3, by omega, f25.to_RIT, f25_1.to_RKT, f25_2.to_RKT, hw1⟩
    · refine wl_allocg [_, _, _] Try.zeroValue27 (by rfl) ?_
      rintro g3 w3 f3 b3 i3 i3_1
      have s3 := b3.size
      replace hw := hw.trans (b3.mono hw.size)
      replace hw1 := hw1.trans (b3.mono hw1.size)
      replace f14 := f14.u b3
      replace f14_1 := f14_1.u b3
      replace f18_2 := f18_2.u b3
      replace f18_1 := f18_1.u b3
      replace f18 := f18.u b3
      replace f := f.u b3
      refine wl_call rfl (C_put _ (by simp) (by simp)) ?_ (hq := .inr fun _ _ h => grown_of_below h.choose_spec.choose_spec.choose_spec.choose_spec.2.2.2.2.2.2.2 _)
      rintro v24 w24 ⟨K24, ⟨c24, ⟨V24, ⟨d24, ⟨rfl, ⟨f24, ⟨i24, ⟨i24_1, ⟨f24_1, ⟨i24_2, ⟨i24_3, b24⟩⟩⟩⟩⟩⟩⟩⟩⟩⟩⟩
      have s24 := b24.size
      replace hw := hw.trans (b24.mono hw.size)
      replace hw1 := hw1.trans (b24.mono hw1.size)
      replace f := f.u b24
      replace f18 := f18.u b24
      replace f18_1 := f18_1.u b24
      replace f18_2 := f18_2.u b24
      replace f14_1 := f14_1.u b24
      replace f14 := f14.u b24
      replace f3 := f3.u b24
      refine wl_call rfl (C_opsStepN _ e2 f18.to_RI f18_1.to_RKs f18_2.to_RKs f24.to_Rd f24_1.to_Rd rfl rfl rfl rfl rfl (by simp) (by simp) (by simp) (by simp [LtI]) (by simp) (by simp)) ?_
      rintro v25 w25 ⟨A25, ⟨c25, ⟨B25, ⟨d25, ⟨C25, ⟨e25, ⟨rfl, ⟨f25, ⟨f25_1, ⟨f25_2, b25⟩⟩⟩⟩⟩⟩⟩⟩⟩⟩
      have qf25 := f25.cap
      have qf25_1 := f25_1.cap
      have qf25_2 := f25_2.cap
      have s25 := b25.size
      replace hw := hw.trans (b25.mono hw.size)
      replace hw1 := hw1.trans (b25.mono hw1.size)
      replace f3 := f3.u b25
      replace f14 := f14.u b25
      replace f14_1 := f14_1.u b25
      replace f18_2 := f18_2.u b25
      replace f18_1 := f18_1.u b25
      replace f18 := f18.u b25
      replace f := f.u b25
      replace f24_1 := f24_1.u b25
      replace f24 := f24.u b25
      refine wl_p (fun _ => o_move rfl) ?_
      refine wl_p (fun _ => o_ext20 rfl) ?_
      refine wl_p (fun _ => o_ext21 rfl) ?_
      exact wl_tof hj (Fr.le_of (by kernel_rfl) (by kernel_rfl) (by repeat' constructor)) ⟨g3, _, _, _, _, _, _, rfl, f3, by omega, f25.to_RIT, f25_1.to_RKT, f25_2.to_RKT, hw1⟩
  · refine wl_allocg [_, _, _] Try.zeroValue27 (by rfl) ?_
    rintro g3 w3 f3 b3 i3 i3_1
    simp only [drew_size] at b3
    simp only [drew_size] at i3
    have s3 := b3.size
    simp only [drew_size] at s3
    replace hw := hw.trans (b3.mono hw.size)
    replace hw1 := hw1.trans (b3.mono hw1.size)
    replace f := f.u b3
    replace f18 := f18.u b3
    replace f18_1 := f18_1.u b3
    replace f18_2 := f18_2.u b3
    replace f14_1 := f14_1.u b3
    replace f14 := f14.u b3
    refine wl_call rfl (C_b _) ?_ (hq := .inr fun _ _ h => grown_of_below h.2 _)
    rintro v23 w23 ⟨rfl, b23⟩
    have s23 := b23.size
    replace hw := hw.trans (b23.mono hw.size)
    replace hw1 := hw1.trans (b23.mono hw1.size)
    replace f14 := f14.u b23
    replace f14_1 := f14_1.u b23
    replace f18_2 := f18_2.u b23
    replace f18_1 := f18_1.u b23
    replace f18 := f18.u b23
    replace f := f.u b23
    replace f3 := f3.u b23
    refine wl_call rfl (C_put _ (by simp) (by simp)) ?_ (hq := .inr fun _ _ h => grown_of_below h.choose_spec.choose_spec.choose_spec.choose_spec.2.2.2.2.2.2.2 _)
    rintro v24 w24 ⟨K24, ⟨c24, ⟨V24, ⟨d24, ⟨rfl, ⟨f24, ⟨i24, ⟨i24_1, ⟨f24_1, ⟨i24_2, ⟨i24_3, b24⟩⟩⟩⟩⟩⟩⟩⟩⟩⟩⟩
    have s24 := b24.size
    replace hw := hw.trans (b24.mono hw.size)
    replace hw1 := hw1.trans (b24.mono hw1.size)
    replace f3 := f3.u b24
    replace f := f.u b24
    replace f18 := f18.u b24
    replace f18_1 := f18_1.u b24
    replace f18_2 := f18_2.u b24
    replace f14_1 := f14_1.u b24
    replace f14 := f14.u b24
    refine wl_call rfl (C_opsStepN _ e2 f18.to_RI f18_1.to_RKs f18_2.to_RKs f24.to_Rd f24_1.to_Rd rfl rfl rfl rfl rfl (by simp) (by simp) (by simp) (by simp [LtI]) (by simp) (by simp)) ?_
    rintro v25 w25 ⟨A25, ⟨c25, ⟨B25, ⟨d25, ⟨C25, ⟨e25, ⟨rfl, ⟨f25, ⟨f25_1, ⟨f25_2, b25⟩⟩⟩⟩⟩⟩⟩⟩⟩⟩
    have qf25 := f25.cap
    have qf25_1 := f25_1.cap
    have qf25_2 := f25_2.cap
    have s25 := b25.size
    replace hw := hw.trans (b25.mono hw.size)
    replace hw1 := hw1.trans (b25.mono hw1.size)
    replace f14 := f14.u b25
    replace f14_1 := f14_1.u b25
    replace f18_2 := f18_2.u b25
    replace f18_1 := f18_1.u b25
    replace f18 := f18.u b25
    replace f := f.u b25
    replace f3 := f3.u b25
    replace f24_1 := f24_1.u b25
    replace f24 := f24.u b25
    refine wl_p (fun _ => o_move rfl) ?_
    refine wl_p (fun _ => o_ext20 rfl) ?_
    refine wl_p (fun _ => o_ext21 rfl) ?_
    exact wl_tof hj (Fr.le_of (by kernel_rfl) (by kernel_rfl) (by repeat' constructor)) ⟨g3, _, _, _, _, _, _, rfl, f3, by omega, f25.to_RIT, f25_1.to_RKT, f25_2.to_RKT, hw1⟩
end Go.Proofs.Ytahkeoegbjopfaa
