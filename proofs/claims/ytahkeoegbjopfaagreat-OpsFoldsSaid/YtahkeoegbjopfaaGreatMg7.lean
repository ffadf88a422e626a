/-
  Walks of package ops: an op done to a state.
-/
import Derived.Test.YtahkeoegbjopfaaGreatMg6
import Derived.Laws.IdiomStrings
namespace Go.Proofs.YtahkeoegbjopfaaGreat
set_option maxRecDepth 100000
open Go.RowKit
theorem Grew.after2 {w w1 w' : World} {e : TypeId} {r : Option Nat} (h : Below w.heap.size w w1) (k : Grew w1 w' e r) : ∃ r', Grew w w' e r' ∧ ∀ b, r' = some b → r = some b := by
 rcases r with _ | b
 ·exact ⟨none, ⟨grownBy_trans (grown_of_below h _) k.g, fun b hb => (by cases hb)⟩, fun b hb => hb⟩
 ·by_cases hb : b < w.heap.size
  ·refine ⟨some b, ⟨grownBy_trans (grown_of_below h _) k.g, fun q hq => ?_⟩, fun q hq => hq⟩
   injection hq with hq
   subst hq
   exact (k.ty b rfl).keep (h.block b hb).symm
  ·exact ⟨none, Grew.none_ (h.trans (k.below h.size (fun q hq => by injection hq with hq; omega))), fun q hq => (by cases hq)⟩
theorem StCh.after {w w1 w' : World} {B g : Nat} (h : StCh B g w1 w') (hb : Below w.heap.size w w1) : StCh B g w w' := by
 obtain ⟨x1, x2, r1, r2, g1, g2, g3, t1, t2⟩ := h.ex
 obtain ⟨r', k1, k2⟩ := Grew.after2 hb g1
 exact ⟨x1, x2, r', r2, k1, g2, g3, fun k hk => t1 k (k2 k hk), t2⟩
theorem K_doAddWriter {K V : Option Addr} {n c m d B g : Nat} {k : Int} {u : Ky} {S : Stt} (w : World) (hS : StAt w B g S) (hl : S.2.1.length ≤ 100000) (hs : IncK S.2.1) :
  CallsR Tryz.prog 80 [.pointer (some ⟨g, 0, none⟩), .agg (opC k K n c V m d u).toArray] w fun v w' => v = .bool (addS S.2.1 u 16).2 ∧ StAt w' B g (S.1, (addS S.2.1 u 16).1, S.2.2) ∧ StCh B g w w' := by
 obtain ⟨A, ca, A2, c2, A3, c3, f0, f1, f2, f3, q7, q8⟩ := hS.ex
 refine callsR Tryz.func80 rfl rfl (by kernel_rfl) rfl ?_
 have hw := Below.refl w.heap.size w
 refine rk_seq ?_
 refine rk_region ?_
 refine wl_boxg _ rfl (by rfl) ?_
 rintro g3 w3 f3_1 b3 i3 i3_1
 have s3 := b3.size
 replace hw := hw.trans (b3.mono hw.size)
 refine wl_p (fun _ => o_assign rfl) ?_
 refine wl_nil ?_
 refine rk_seq ?_
 refine rk_draw (id := 1) (none) [0, 1, 2, 0, 8, 20, 63] [0, 1, 3, 0, 8, 31, 63] 32 0 [(.p, 0), (.p, 1), (.p, 2), (.p, 3), (.r, 4), (.l, 5), (.p, 6)] (by kernel_rfl) (by kernel_rfl) (by kernel_rfl) (by kernel_rfl) (by kernel_rfl) ?_
 replace hw := hw.drew
 replace f3_1 := f3_1.d
 refine wl_p (fun _ => o_move rfl) ?_
 refine wl_p (fun _ => o_nil rfl) ?_
 refine wl_p (fun _ => o_faddr (s := 31) (i := 1) (off := 1) Tryz.underlying31 rfl Tryz.sizeOf29 rfl rfl rfl) ?_
 refine wl_p (fun _ => o_faddr (s := 54) (i := 3) (off := 3) Tryz.underlying54 rfl Tryz.sizeOf42 rfl rfl rfl) ?_
 refine wl_r (o_ldWho rfl f3_1) ?_
 have hS2 := (hS.same hw).1
 refine wl_call rfl (K_addW (most := 16) _ hS2 hl hs (by omega)) ?_
 rintro _ w10 ⟨rfl, h3, h4⟩
 refine wl_p (fun _ => o_assign rfl) ?_
 refine wl_nild ?_
 refine ret1 rfl rfl ?_
 exact ⟨rfl, h3, h4.after hw⟩
theorem K_doDropWriter {K V : Option Addr} {n c m d B g : Nat} {k : Int} {u : Ky} {S : Stt} (w : World) (hS : StAt w B g S) (hl : S.2.1.length ≤ 100000) (hs : IncK S.2.1) :
  CallsR Tryz.prog 81 [.pointer (some ⟨g, 0, none⟩), .agg (opC k K n c V m d u).toArray] w fun v w' => v = .bool (dropS S.2.1 u 0).2 ∧ StAt w' B g (S.1, (dropS S.2.1 u 0).1, S.2.2) ∧ StCh B g w w' := by
 obtain ⟨A, ca, A2, c2, A3, c3, f0, f1, f2, f3, q7, q8⟩ := hS.ex
 refine callsR Tryz.func81 rfl rfl (by kernel_rfl) rfl ?_
 have hw := Below.refl w.heap.size w
 refine rk_seq ?_
 refine rk_region ?_
 refine wl_boxg _ rfl (by rfl) ?_
 rintro g3 w3 f3_1 b3 i3 i3_1
 have s3 := b3.size
 replace hw := hw.trans (b3.mono hw.size)
 refine wl_p (fun _ => o_assign rfl) ?_
 refine wl_nil ?_
 refine rk_seq ?_
 refine rk_draw (id := 1) (none) [0, 1, 2, 0, 8, 20, 63] [0, 1, 3, 0, 8, 31, 63] 32 0 [(.p, 0), (.p, 1), (.p, 2), (.p, 3), (.r, 4), (.l, 5), (.p, 6)] (by kernel_rfl) (by kernel_rfl) (by kernel_rfl) (by kernel_rfl) (by kernel_rfl) ?_
 replace hw := hw.drew
 replace f3_1 := f3_1.d
 refine wl_p (fun _ => o_move rfl) ?_
 refine wl_p (fun _ => o_nil rfl) ?_
 refine wl_p (fun _ => o_faddr (s := 31) (i := 1) (off := 1) Tryz.underlying31 rfl Tryz.sizeOf29 rfl rfl rfl) ?_
 refine wl_p (fun _ => o_faddr (s := 54) (i := 3) (off := 3) Tryz.underlying54 rfl Tryz.sizeOf42 rfl rfl rfl) ?_
 refine wl_r (o_ldWho rfl f3_1) ?_
 have hS2 := (hS.same hw).1
 refine wl_call rfl (K_dropW (least := 0) _ hS2 hl hs (by omega)) ?_
 rintro _ w10 ⟨rfl, h3, h4⟩
 refine wl_p (fun _ => o_assign rfl) ?_
 refine wl_nild ?_
 refine ret1 rfl rfl ?_
 exact ⟨rfl, h3, h4.after hw⟩
theorem K_doAddIndexer {K V : Option Addr} {n c m d B g : Nat} {k : Int} {u : Ky} {S : Stt} (w : World) (hS : StAt w B g S) (hl : S.2.2.length ≤ 100000) (hs : IncK S.2.2) :
  CallsR Tryz.prog 82 [.pointer (some ⟨g, 0, none⟩), .agg (opC k K n c V m d u).toArray] w fun v w' => v = .bool (addS S.2.2 u 16).2 ∧ StAt w' B g (S.1, S.2.1, (addS S.2.2 u 16).1) ∧ StCh B g w w' := by
 obtain ⟨A, ca, A2, c2, A3, c3, f0, f1, f2, f3, q7, q8⟩ := hS.ex
 refine callsR Tryz.func82 rfl rfl (by kernel_rfl) rfl ?_
 have hw := Below.refl w.heap.size w
 refine rk_seq ?_
 refine rk_region ?_
 refine wl_boxg _ rfl (by rfl) ?_
 rintro g3 w3 f3_1 b3 i3 i3_1
 have s3 := b3.size
 replace hw := hw.trans (b3.mono hw.size)
 refine wl_p (fun _ => o_assign rfl) ?_
 refine wl_nil ?_
 refine rk_seq ?_
 refine rk_draw (id := 1) (none) [0, 1, 2, 0, 8, 20, 63] [0, 1, 3, 0, 8, 31, 63] 32 0 [(.p, 0), (.p, 1), (.p, 2), (.p, 3), (.r, 4), (.l, 5), (.p, 6)] (by kernel_rfl) (by kernel_rfl) (by kernel_rfl) (by kernel_rfl) (by kernel_rfl) ?_
 replace hw := hw.drew
 replace f3_1 := f3_1.d
 refine wl_p (fun _ => o_move rfl) ?_
 refine wl_p (fun _ => o_nil rfl) ?_
 refine wl_p (fun _ => o_faddr (s := 31) (i := 2) (off := 2) Tryz.underlying31 rfl Tryz.sizeOf29 rfl rfl rfl) ?_
 refine wl_p (fun _ => o_faddr (s := 54) (i := 3) (off := 3) Tryz.underlying54 rfl Tryz.sizeOf42 rfl rfl rfl) ?_
 refine wl_r (o_ldWho rfl f3_1) ?_
 have hS2 := (hS.same hw).1
 refine wl_call rfl (K_addX (most := 16) _ hS2 hl hs (by omega)) ?_
 rintro _ w10 ⟨rfl, h3, h4⟩
 refine wl_p (fun _ => o_assign rfl) ?_
 refine wl_nild ?_
 refine ret1 rfl rfl ?_
 exact ⟨rfl, h3, h4.after hw⟩
theorem K_doDropIndexer {K V : Option Addr} {n c m d B g : Nat} {k : Int} {u : Ky} {S : Stt} (w : World) (hS : StAt w B g S) (hl : S.2.2.length ≤ 100000) (hs : IncK S.2.2) :
  CallsR Tryz.prog 83 [.pointer (some ⟨g, 0, none⟩), .agg (opC k K n c V m d u).toArray] w fun v w' => v = .bool (dropS S.2.2 u 1).2 ∧ StAt w' B g (S.1, S.2.1, (dropS S.2.2 u 1).1) ∧ StCh B g w w' := by
 obtain ⟨A, ca, A2, c2, A3, c3, f0, f1, f2, f3, q7, q8⟩ := hS.ex
 refine callsR Tryz.func83 rfl rfl (by kernel_rfl) rfl ?_
 have hw := Below.refl w.heap.size w
 refine rk_seq ?_
 refine rk_region ?_
 refine wl_boxg _ rfl (by rfl) ?_
 rintro g3 w3 f3_1 b3 i3 i3_1
 have s3 := b3.size
 replace hw := hw.trans (b3.mono hw.size)
 refine wl_p (fun _ => o_assign rfl) ?_
 refine wl_nil ?_
 refine rk_seq ?_
 refine rk_draw (id := 1) (none) [0, 1, 2, 0, 8, 20, 63] [0, 1, 3, 0, 8, 31, 63] 32 0 [(.p, 0), (.p, 1), (.p, 2), (.p, 3), (.r, 4), (.l, 5), (.p, 6)] (by kernel_rfl) (by kernel_rfl) (by kernel_rfl) (by kernel_rfl) (by kernel_rfl) ?_
 replace hw := hw.drew
 replace f3_1 := f3_1.d
 refine wl_p (fun _ => o_move rfl) ?_
 refine wl_p (fun _ => o_nil rfl) ?_
 refine wl_p (fun _ => o_faddr (s := 31) (i := 2) (off := 2) Tryz.underlying31 rfl Tryz.sizeOf29 rfl rfl rfl) ?_
 refine wl_p (fun _ => o_faddr (s := 54) (i := 3) (off := 3) Tryz.underlying54 rfl Tryz.sizeOf42 rfl rfl rfl) ?_
 refine wl_r (o_ldWho rfl f3_1) ?_
 have hS2 := (hS.same hw).1
 refine wl_call rfl (K_dropX (least := 1) _ hS2 hl hs (by omega)) ?_
 rintro _ w10 ⟨rfl, h3, h4⟩
 refine wl_p (fun _ => o_assign rfl) ?_
 refine wl_nild ?_
 refine ret1 rfl rfl ?_
 exact ⟨rfl, h3, h4.after hw⟩
structure StOk (S : Stt) : Prop where
 i : OkI S.1
 x : IncK S.2.1
 y : IncK S.2.2
 li : S.1.length ≤ 100000
 lx : S.2.1.length ≤ 100000
 ly : S.2.2.length ≤ 100000
theorem OkI.lt {I : List (By × By)} (h : OkI I) : LtI I := fun x hx => by
 obtain ⟨i, hi, rfl⟩ := List.getElem_of_mem hx
 have := (h i hi).1
 omega
theorem sh4_do {k kk : Int} {gf pf rf df : Nat} (h : Sh4 k gf pf rf df) {K V : Option Addr} {p q : By} {n c m d B g : Nat} {u : Ky} {S : Stt} (w : World) (hS : StAt w B g S) (ho : StOk S) (hK : Rd w K p) (hV : Rd w V q) (hn : n = p.length) (hm : m = q.length) (hp : p.length ≤ 4000000) (hq : q.length ≤ 4000000) :
  CallsR Tryz.prog df [.pointer (some ⟨g, 0, none⟩), .agg (opC kk K n c V m d u).toArray] w fun v w' => v = .bool (doS k S p q u).2 ∧ StAt w' B g (doS k S p q u).1 ∧ StCh B g w w' := by
 rcases h with ⟨rfl, _, _, _, rfl⟩ | ⟨rfl, _, _, _, rfl⟩ | ⟨rfl, _, _, _, rfl⟩ | ⟨rfl, _, _, _, rfl⟩ | ⟨rfl, _, _, _, rfl⟩ | ⟨rfl, _, _, _, rfl⟩
 ·exact K_doPut w hS hK hV hn hm hp hq ho.li ho.i.lt ho.i.srt
 ·exact K_doDelete w hS hK hn hp ho.li ho.i.lt ho.i.srt
 ·exact K_doAddWriter w hS ho.lx ho.x
 ·exact K_doDropWriter w hS ho.lx ho.x
 ·exact K_doAddIndexer w hS ho.ly ho.y
 ·exact K_doDropIndexer w hS ho.ly ho.y
def mayS (S : Stt) (wr : Ky) (k : Int) (n m : Nat) (u : Ky) : Prop := okOp k n m u = true ∧ wr ∈ S.2.1 ∧ ((k ≠ 1 ∧ k ≠ 2) → wr ∈ S.2.2)
instance (S : Stt) (wr : Ky) (k : Int) (n m : Nat) (u : Ky) : Decidable (mayS S wr k n m u) := by unfold mayS; infer_instance
def stS (S : Stt) (wr : Ky) (o : Opn) : Stt × Bool := if mayS S wr o.1 o.2.1.length o.2.2.1.length o.2.2.2 then doS o.1 S o.2.1 o.2.2.1 o.2.2.2 else (S, false)
theorem K_step {K V : Option Addr} {p q : By} {n c m d B g : Nat} {k : Int} {u wr : Ky} {S : Stt} (w : World) (hS : StAt w B g S) (ho : StOk S) (hK : Rd w K p) (hV : Rd w V q) (hn : n = p.length) (hm : m = q.length) (hp : p.length ≤ 4000000) (hq : q.length ≤ 4000000) :
  CallsR Tryz.prog 37 [.pointer (some ⟨g, 0, none⟩), .agg (B8 wr.1).toArray, .agg (opC k K n c V m d u).toArray] w fun v w' => v = .bool (stS S wr (k, p, q, u)).2 ∧ StAt w' B g (stS S wr (k, p, q, u)).1 ∧ StCh B g w w' := by
 subst hn; subst hm
 obtain ⟨A, ca, A2, c2, A3, c3, f0, f1, f2, f3, q7, q8⟩ := hS.ex
 have hlx := ho.lx
 have hly := ho.ly
 unfold stS
 dsimp only
 refine callsR Tryz.func37 rfl rfl (by kernel_rfl) rfl ?_
 have hw := Below.refl w.heap.size w
 by_cases hk : 1 ≤ k ∧ k ≤ 6
 ·obtain ⟨hk1, hk2⟩ := hk
  refine rk_seq ?_
  refine rk_region ?_
  refine wl_boxg _ rfl (by rfl) ?_
  rintro g4 w4 f4 b4 i4 i4_1
  have s4 := b4.size
  replace hw := hw.trans (b4.mono hw.size)
  refine wl_boxg _ rfl (by rfl) ?_
  rintro g5 w5 f5 b5 i5 i5_1
  have s5 := b5.size
  replace hw := hw.trans (b5.mono hw.size)
  replace f4 := f4.u b5
  refine wl_p (fun _ => o_assign rfl) ?_
  refine wl_nil ?_
  refine rk_seq ?_
  refine rk_region ?_
  refine wl_p (fun _ => o_faddr (s := 54) (i := 0) (off := 0) Tryz.underlying54 rfl Tryz.sizeOf3 rfl rfl rfl) ?_
  refine wl_r (o_loadbg Tryz.isAgg3 rfl f5 (by rfl)) ?_
  refine wl_call rfl (C_formOk _ (by omega) (by omega)) ?_
  rintro v12 w12 ⟨gf12, ⟨pf12, ⟨rf12, ⟨df12, ⟨rfl, ⟨i12, b12⟩⟩⟩⟩⟩⟩
  have s12 := b12.size
  replace hw := hw.trans (b12.mono hw.size)
  replace f4 := f4.u b12
  replace f5 := f5.u b12
  refine wl_p (fun _ => o_move rfl) ?_
  refine wl_p (fun _ => o_ext20 rfl) ?_
  refine wl_p (fun _ => o_ext21 rfl) ?_
  refine wl_allocg [_, _, _, _] Tryz.zeroValue89 (by rfl) ?_
  rintro g7 w7 f7 b7 i7 i7_1
  have s7 := b7.size
  replace hw := hw.trans (b7.mono hw.size)
  replace f5 := f5.u b7
  replace f4 := f4.u b7
  refine wl_storega Tryz.sizeOf89 rfl rfl (by rfl) (oneCell_of (by rfl)) f7 (by rfl) ?_
  rintro w_1 f g_1 e
  have s := g_1.size
  replace hw := hw.trans (below_of_grownBy g_1.g hw.size (by omega))
  replace f4 := f4.k g_1.g (ap_some (by omega))
  replace f5 := f5.k g_1.g (ap_some (by omega))
  clear f7
  refine wl_p (fun _ => o_assign rfl) ?_
  refine wl_nil ?_
  refine rk_seq ?_
  refine rk_seq ?_
  refine rk_draw (id := 2) (none) [0, 1, 2, 4, 12, 4, 52, 68, 132, 320, 512, 1536, 2560, 4608, 512, 25088, 33280, 66048] [0, 1, 3, 7, 15, 7, 63, 127, 255, 511, 1023, 2047, 4095, 8191, 1023, 32767, 65535, 131071] 32832 0 [(.p, 0), (.p, 1), (.p, 2), (.p, 3), (.r, 4), (.r, 5), (.l, 6), (.p, 7), (.p, 8), (.p, 9), (.p, 10), (.p, 11), (.p, 12), (.r, 13), (.r, 14), (.l, 15), (.p, 16), (.p, 17)] (by kernel_rfl) (by kernel_rfl) (by kernel_rfl) (by kernel_rfl) (by kernel_rfl) ?_
  replace hw := hw.drew
  replace f5 := f5.d
  replace f4 := f4.d
  replace f := f.d
  refine wl_p (fun _ => o_move rfl) ?_
  refine wl_p (fun _ => o_not rfl) ?_
  refine wl_p (fun _ => o_move rfl) ?_
  refine wl_p (fun _ => o_faddr (s := 89) (i := 0) (off := 0) Tryz.underlying89 rfl Tryz.sizeOf84 rfl rfl rfl) ?_
  refine wl_r (o_loadbg Tryz.isAgg84 rfl f (by rfl)) ?_
  refine wl_r (o_loadag Tryz.isAgg54 Tryz.sizeOf54 rfl f5 (opC_length ..)) ?_
  refine wl_know 17 false rfl (by simp) ?_
  refine wl_callf (xs := [_]) (cs := []) rfl rfl (sh4_good i12 _ (by omega) (by omega)) ?_
  rintro _ w21 ⟨rfl, b21⟩
  have sb21 := b21.size
  simp only [drew_size] at sb21
  replace hw := hw.trans (b21.mono hw.size)
  replace f := f.u b21
  replace f4 := f4.u b21
  replace f5 := f5.u b21
  cases hgd : goodS k p.length q.length u
  ·rw [if_neg (fun h => by have := (okOp_of h.1).2.2; rw [hgd] at this; cases this)]
   refine wl_p (fun _ => o_not rfl) ?_
   refine wl_p (fun _ => o_pick_f rfl rfl) ?_
   refine wl_p (fun _ => o_move rfl) ?_
   refine wl_off ?_
   refine wl_off ?_
   refine wl_off ?_
   refine wl_off ?_
   refine wl_off ?_
   refine wl_off ?_
   refine wl_off ?_
   refine wl_p (fun _ => o_pick_t rfl rfl) ?_
   refine wl_nild ?_
   refine rk_true rfl ?_
   refine rk_seq ?_
   refine rk_region ?_
   refine wl_p (fun _ => o_assign rfl) ?_
   refine wl_nil ?_
   refine ret1 rfl rfl ?_
   exact ⟨rfl, hS.same hw⟩
  have hok : okOp k p.length q.length u = true := by simp [okOp, hgd, hk1, hk2]
  by_cases hx : wr ∈ S.2.1
  ·refine wl_p (fun _ => o_not rfl) ?_
   refine wl_p (fun _ => o_pick_f rfl rfl) ?_
   refine wl_p (fun _ => o_move rfl) ?_
   refine wl_p (fun _ => o_move rfl) ?_
   refine wl_p (fun _ => o_nil rfl) ?_
   refine wl_p (fun _ => o_faddr (s := 31) (i := 1) (off := 1) Tryz.underlying31 rfl Tryz.sizeOf29 rfl rfl rfl) ?_
   refine wl_r (o_loadbg Tryz.isAgg29 rfl (f0.u hw) (by rfl)) ?_
   refine wl_r (o_ldKyB rfl f4) ?_
   refine wl_call rfl (C_member _ (f2.u hw).to_RKs rfl (by omega)) ?_
   rintro v30 w30 ⟨rfl, b30⟩
   have s30 := b30.size
   replace hw := hw.trans (b30.mono hw.size)
   replace f5 := f5.u b30
   replace f4 := f4.u b30
   replace f := f.u b30
   refine wl_p (fun _ => o_not rfl) ?_
   refine wl_p (fun _ => o_pick_f rfl rfl) ?_
   refine wl_nild ?_
   rw [decide_eq_true hx]
   by_cases h12 : k = 1 ∨ k = 2
   ·rw [if_pos ⟨hok, hx, fun h => absurd h12 (by omega)⟩]
    rcases h12 with rfl | rfl
    ·refine rk_false rfl ?_
     refine rk_skip ?_
     refine rk_seq ?_
     refine rk_seq ?_
     refine rk_draw (id := 4) (none) [0, 1, 2, 4, 8, 24, 40, 72, 136, 256, 768, 1280, 2304, 256, 12544, 16640, 33024] [0, 1, 3, 7, 15, 31, 63, 127, 255, 511, 1023, 2047, 4095, 511, 16383, 32767, 65535] 16384 0 [(.p, 0), (.r, 1), (.p, 2), (.p, 3), (.p, 4), (.r, 5), (.p, 6), (.p, 7), (.p, 8), (.p, 9), (.p, 10), (.p, 11), (.r, 12), (.r, 13), (.l, 14), (.p, 15), (.p, 16)] (by kernel_rfl) (by kernel_rfl) (by kernel_rfl) (by kernel_rfl) (by kernel_rfl) ?_
     replace hw := hw.drew
     replace f5 := f5.d
     replace f := f.d
     replace f4 := f4.d
     refine wl_p (fun _ => o_faddr (s := 54) (i := 0) (off := 0) Tryz.underlying54 rfl Tryz.sizeOf3 rfl rfl rfl) ?_
     refine wl_r (o_loadbg Tryz.isAgg3 rfl f5 (by rfl)) ?_
     refine wl_p (fun _ => o_ne rfl rfl) ?_
     refine wl_p (fun _ => o_move rfl) ?_
     refine wl_off ?_
     refine wl_off ?_
     refine wl_off ?_
     refine wl_p (fun _ => o_pick_f rfl rfl) ?_
     refine wl_p (fun _ => o_move rfl) ?_
     refine wl_off ?_
     refine wl_off ?_
     refine wl_off ?_
     refine wl_off ?_
     refine wl_off ?_
     refine wl_off ?_
     refine wl_off ?_
     refine wl_p (fun _ => o_pick_f rfl rfl) ?_
     refine wl_nild ?_
     refine rk_false rfl ?_
     refine rk_skip ?_
     refine rk_seq ?_
     refine rk_region ?_
     refine wl_p (fun _ => o_faddr (s := 89) (i := 3) (off := 3) Tryz.underlying89 rfl Tryz.sizeOf87 rfl rfl rfl) ?_
     refine wl_r (o_loadbg Tryz.isAgg87 rfl f (by rfl)) ?_
     refine wl_p (fun _ => o_move rfl) ?_
     refine wl_r (o_loadag Tryz.isAgg54 Tryz.sizeOf54 rfl f5 (opC_length ..)) ?_
     refine wl_callf (xs := [_, _]) (cs := []) rfl rfl (sh4_do i12 _ (hS.same hw).1 ho (hK.below hw) (hV.below hw) rfl rfl hp hq) ?_
     rintro _ w54 ⟨rfl, e1, e2⟩
     have e3 := e2.after hw
     clear hw
     refine wl_p (fun _ => o_assign rfl) ?_
     refine wl_nil ?_
     refine ret1 rfl rfl ?_
     exact ⟨rfl, e1, e3⟩
    ·refine rk_false rfl ?_
     refine rk_skip ?_
     refine rk_seq ?_
     refine rk_seq ?_
     refine rk_draw (id := 4) (none) [0, 1, 2, 4, 8, 24, 40, 72, 136, 256, 768, 1280, 2304, 256, 12544, 16640, 33024] [0, 1, 3, 7, 15, 31, 63, 127, 255, 511, 1023, 2047, 4095, 511, 16383, 32767, 65535] 16384 0 [(.p, 0), (.r, 1), (.p, 2), (.p, 3), (.p, 4), (.r, 5), (.p, 6), (.p, 7), (.p, 8), (.p, 9), (.p, 10), (.p, 11), (.r, 12), (.r, 13), (.l, 14), (.p, 15), (.p, 16)] (by kernel_rfl) (by kernel_rfl) (by kernel_rfl) (by kernel_rfl) (by kernel_rfl) ?_
     replace hw := hw.drew
     replace f5 := f5.d
     replace f := f.d
     replace f4 := f4.d
     refine wl_p (fun _ => o_faddr (s := 54) (i := 0) (off := 0) Tryz.underlying54 rfl Tryz.sizeOf3 rfl rfl rfl) ?_
     refine wl_r (o_loadbg Tryz.isAgg3 rfl f5 (by rfl)) ?_
     refine wl_p (fun _ => o_ne rfl rfl) ?_
     refine wl_p (fun _ => o_move rfl) ?_
     refine wl_p (fun _ => o_faddr (s := 54) (i := 0) (off := 0) Tryz.underlying54 rfl Tryz.sizeOf3 rfl rfl rfl) ?_
     refine wl_r (o_loadbg Tryz.isAgg3 rfl f5 (by rfl)) ?_
     refine wl_p (fun _ => o_ne rfl rfl) ?_
     refine wl_p (fun _ => o_pick_t rfl rfl) ?_
     refine wl_p (fun _ => o_move rfl) ?_
     refine wl_off ?_
     refine wl_off ?_
     refine wl_off ?_
     refine wl_off ?_
     refine wl_off ?_
     refine wl_off ?_
     refine wl_off ?_
     refine wl_p (fun _ => o_pick_f rfl rfl) ?_
     refine wl_nild ?_
     refine rk_false rfl ?_
     refine rk_skip ?_
     refine rk_seq ?_
     refine rk_region ?_
     refine wl_p (fun _ => o_faddr (s := 89) (i := 3) (off := 3) Tryz.underlying89 rfl Tryz.sizeOf87 rfl rfl rfl) ?_
     refine wl_r (o_loadbg Tryz.isAgg87 rfl f (by rfl)) ?_
     refine wl_p (fun _ => o_move rfl) ?_
     refine wl_r (o_loadag Tryz.isAgg54 Tryz.sizeOf54 rfl f5 (opC_length ..)) ?_
     refine wl_callf (xs := [_, _]) (cs := []) rfl rfl (sh4_do i12 _ (hS.same hw).1 ho (hK.below hw) (hV.below hw) rfl rfl hp hq) ?_
     rintro _ w54 ⟨rfl, e1, e2⟩
     have e3 := e2.after hw
     clear hw
     refine wl_p (fun _ => o_assign rfl) ?_
     refine wl_nil ?_
     refine ret1 rfl rfl ?_
     exact ⟨rfl, e1, e3⟩
   ·have n1 : k ≠ 1 := by omega
    have n2 : k ≠ 2 := by omega
    by_cases hy : wr ∈ S.2.2
    ·rw [if_pos ⟨hok, hx, fun _ => hy⟩]
     refine rk_false rfl ?_
     refine rk_skip ?_
     refine rk_seq ?_
     refine rk_seq ?_
     refine rk_draw (id := 4) (none) [0, 1, 2, 4, 8, 24, 40, 72, 136, 256, 768, 1280, 2304, 256, 12544, 16640, 33024] [0, 1, 3, 7, 15, 31, 63, 127, 255, 511, 1023, 2047, 4095, 511, 16383, 32767, 65535] 16384 0 [(.p, 0), (.r, 1), (.p, 2), (.p, 3), (.p, 4), (.r, 5), (.p, 6), (.p, 7), (.p, 8), (.p, 9), (.p, 10), (.p, 11), (.r, 12), (.r, 13), (.l, 14), (.p, 15), (.p, 16)] (by kernel_rfl) (by kernel_rfl) (by kernel_rfl) (by kernel_rfl) (by kernel_rfl) ?_
     replace hw := hw.drew
     replace f := f.d
     replace f4 := f4.d
     replace f5 := f5.d
     refine wl_p (fun _ => o_faddr (s := 54) (i := 0) (off := 0) Tryz.underlying54 rfl Tryz.sizeOf3 rfl rfl rfl) ?_
     refine wl_r (o_loadbg Tryz.isAgg3 rfl f5 (by rfl)) ?_
     refine wl_p (fun _ => o_ne rfl rfl) ?_
     refine wl_p (fun _ => o_move rfl) ?_
     refine wl_know 36 true rfl (decide_eq_true (by omega)) ?_
     refine wl_p (fun _ => o_faddr (s := 54) (i := 0) (off := 0) Tryz.underlying54 rfl Tryz.sizeOf3 rfl rfl rfl) ?_
     refine wl_r (o_loadbg Tryz.isAgg3 rfl f5 (by rfl)) ?_
     refine wl_p (fun _ => o_ne rfl rfl) ?_
     refine wl_p (fun _ => o_pick_t rfl rfl) ?_
     refine wl_p (fun _ => o_move rfl) ?_
     refine wl_know 41 true rfl (decide_eq_true (by omega)) ?_
     refine wl_p (fun _ => o_move rfl) ?_
     refine wl_p (fun _ => o_nil rfl) ?_
     refine wl_p (fun _ => o_faddr (s := 31) (i := 2) (off := 2) Tryz.underlying31 rfl Tryz.sizeOf29 rfl rfl rfl) ?_
     refine wl_r (o_loadbg Tryz.isAgg29 rfl (f0.u hw) (by rfl)) ?_
     refine wl_r (o_ldKyB rfl f4) ?_
     refine wl_call rfl (C_member _ (f3.u hw).to_RKs rfl (by omega)) ?_
     rintro v47 w47 ⟨rfl, b47⟩
     simp only [drew_size] at b47
     have s47 := b47.size
     simp only [drew_size] at s47
     replace hw := hw.trans (b47.mono hw.size)
     replace f5 := f5.u b47
     replace f4 := f4.u b47
     replace f := f.u b47
     refine wl_p (fun _ => o_not rfl) ?_
     refine wl_p (fun _ => o_pick_t rfl rfl) ?_
     refine wl_nild ?_
     rw [decide_eq_true hy]
     refine rk_false rfl ?_
     refine rk_skip ?_
     refine rk_seq ?_
     refine rk_region ?_
     refine wl_p (fun _ => o_faddr (s := 89) (i := 3) (off := 3) Tryz.underlying89 rfl Tryz.sizeOf87 rfl rfl rfl) ?_
     refine wl_r (o_loadbg Tryz.isAgg87 rfl f (by rfl)) ?_
     refine wl_p (fun _ => o_move rfl) ?_
     refine wl_r (o_loadag Tryz.isAgg54 Tryz.sizeOf54 rfl f5 (opC_length ..)) ?_
     refine wl_callf (xs := [_, _]) (cs := []) rfl rfl (sh4_do i12 _ (hS.same hw).1 ho (hK.below hw) (hV.below hw) rfl rfl hp hq) ?_
     rintro _ w54 ⟨rfl, e1, e2⟩
     have e3 := e2.after hw
     clear hw
     refine wl_p (fun _ => o_assign rfl) ?_
     refine wl_nil ?_
     refine ret1 rfl rfl ?_
     exact ⟨rfl, e1, e3⟩
    ·rw [if_neg (fun h => hy (h.2.2 ⟨n1, n2⟩))]
     refine rk_false rfl ?_
     refine rk_skip ?_
     refine rk_seq ?_
     refine rk_seq ?_
     refine rk_draw (id := 4) (none) [0, 1, 2, 4, 8, 24, 40, 72, 136, 256, 768, 1280, 2304, 256, 12544, 16640, 33024] [0, 1, 3, 7, 15, 31, 63, 127, 255, 511, 1023, 2047, 4095, 511, 16383, 32767, 65535] 16384 0 [(.p, 0), (.r, 1), (.p, 2), (.p, 3), (.p, 4), (.r, 5), (.p, 6), (.p, 7), (.p, 8), (.p, 9), (.p, 10), (.p, 11), (.r, 12), (.r, 13), (.l, 14), (.p, 15), (.p, 16)] (by kernel_rfl) (by kernel_rfl) (by kernel_rfl) (by kernel_rfl) (by kernel_rfl) ?_
     replace hw := hw.drew
     replace f := f.d
     replace f4 := f4.d
     replace f5 := f5.d
     refine wl_p (fun _ => o_faddr (s := 54) (i := 0) (off := 0) Tryz.underlying54 rfl Tryz.sizeOf3 rfl rfl rfl) ?_
     refine wl_r (o_loadbg Tryz.isAgg3 rfl f5 (by rfl)) ?_
     refine wl_p (fun _ => o_ne rfl rfl) ?_
     refine wl_p (fun _ => o_move rfl) ?_
     refine wl_know 36 true rfl (decide_eq_true (by omega)) ?_
     refine wl_p (fun _ => o_faddr (s := 54) (i := 0) (off := 0) Tryz.underlying54 rfl Tryz.sizeOf3 rfl rfl rfl) ?_
     refine wl_r (o_loadbg Tryz.isAgg3 rfl f5 (by rfl)) ?_
     refine wl_p (fun _ => o_ne rfl rfl) ?_
     refine wl_p (fun _ => o_pick_t rfl rfl) ?_
     refine wl_p (fun _ => o_move rfl) ?_
     refine wl_know 41 true rfl (decide_eq_true (by omega)) ?_
     refine wl_p (fun _ => o_move rfl) ?_
     refine wl_p (fun _ => o_nil rfl) ?_
     refine wl_p (fun _ => o_faddr (s := 31) (i := 2) (off := 2) Tryz.underlying31 rfl Tryz.sizeOf29 rfl rfl rfl) ?_
     refine wl_r (o_loadbg Tryz.isAgg29 rfl (f0.u hw) (by rfl)) ?_
     refine wl_r (o_ldKyB rfl f4) ?_
     refine wl_call rfl (C_member _ (f3.u hw).to_RKs rfl (by omega)) ?_
     rintro v47 w47 ⟨rfl, b47⟩
     simp only [drew_size] at b47
     have s47 := b47.size
     simp only [drew_size] at s47
     replace hw := hw.trans (b47.mono hw.size)
     replace f5 := f5.u b47
     replace f4 := f4.u b47
     replace f := f.u b47
     refine wl_p (fun _ => o_not rfl) ?_
     refine wl_p (fun _ => o_pick_t rfl rfl) ?_
     refine wl_nild ?_
     rw [decide_eq_false hy]
     refine rk_true rfl ?_
     refine rk_seq ?_
     refine rk_region ?_
     refine wl_p (fun _ => o_assign rfl) ?_
     refine wl_nil ?_
     refine ret1 rfl rfl ?_
     exact ⟨rfl, hS.same hw⟩
  ·rw [if_neg (fun h => hx h.2.1)]
   refine wl_p (fun _ => o_not rfl) ?_
   refine wl_p (fun _ => o_pick_f rfl rfl) ?_
   refine wl_p (fun _ => o_move rfl) ?_
   refine wl_p (fun _ => o_move rfl) ?_
   refine wl_p (fun _ => o_nil rfl) ?_
   refine wl_p (fun _ => o_faddr (s := 31) (i := 1) (off := 1) Tryz.underlying31 rfl Tryz.sizeOf29 rfl rfl rfl) ?_
   refine wl_r (o_loadbg Tryz.isAgg29 rfl (f0.u hw) (by rfl)) ?_
   refine wl_r (o_ldKyB rfl f4) ?_
   refine wl_call rfl (C_member _ (f2.u hw).to_RKs rfl (by omega)) ?_
   rintro v30 w30 ⟨rfl, b30⟩
   have s30 := b30.size
   replace hw := hw.trans (b30.mono hw.size)
   replace f5 := f5.u b30
   replace f4 := f4.u b30
   replace f := f.u b30
   refine wl_p (fun _ => o_not rfl) ?_
   refine wl_p (fun _ => o_pick_f rfl rfl) ?_
   refine wl_nild ?_
   rw [decide_eq_false hx]
   refine rk_true rfl ?_
   refine rk_seq ?_
   refine rk_region ?_
   refine wl_p (fun _ => o_assign rfl) ?_
   refine wl_nil ?_
   refine ret1 rfl rfl ?_
   exact ⟨rfl, hS.same hw⟩
 ·have hk1 : k < 1 ∨ 6 < k := by omega
  rw [if_neg (fun h => by have := okOp_of h.1; omega)]
  refine rk_seq ?_
  refine rk_region ?_
  refine wl_boxg _ rfl (by rfl) ?_
  rintro g4 w4 f4 b4 i4 i4_1
  have s4 := b4.size
  replace hw := hw.trans (b4.mono hw.size)
  refine wl_boxg _ rfl (by rfl) ?_
  rintro g5 w5 f5 b5 i5 i5_1
  have s5 := b5.size
  replace hw := hw.trans (b5.mono hw.size)
  replace f4 := f4.u b5
  refine wl_p (fun _ => o_assign rfl) ?_
  refine wl_nil ?_
  refine rk_seq ?_
  refine rk_region ?_
  refine wl_p (fun _ => o_faddr (s := 54) (i := 0) (off := 0) Tryz.underlying54 rfl Tryz.sizeOf3 rfl rfl rfl) ?_
  refine wl_r (o_loadbg Tryz.isAgg3 rfl f5 (by rfl)) ?_
  refine wl_call rfl (C_formBad _ (by omega)) ?_
  rintro v12 w12 ⟨rfl, b12⟩
  have s12 := b12.size
  replace hw := hw.trans (b12.mono hw.size)
  replace f4 := f4.u b12
  replace f5 := f5.u b12
  refine wl_p (fun _ => o_move rfl) ?_
  refine wl_p (fun _ => o_ext20 rfl) ?_
  refine wl_p (fun _ => o_ext21 rfl) ?_
  refine wl_allocg [_, _, _, _] Tryz.zeroValue89 (by rfl) ?_
  rintro g7 w7 f7 b7 i7 i7_1
  have s7 := b7.size
  replace hw := hw.trans (b7.mono hw.size)
  replace f5 := f5.u b7
  replace f4 := f4.u b7
  refine wl_storega Tryz.sizeOf89 rfl rfl (by rfl) (by decide) f7 (by rfl) ?_
  rintro w_1 f g_1 e
  have s := g_1.size
  replace hw := hw.trans (below_of_grownBy g_1.g hw.size (by omega))
  replace f4 := f4.k g_1.g (ap_some (by omega))
  replace f5 := f5.k g_1.g (ap_some (by omega))
  clear f7
  refine wl_p (fun _ => o_assign rfl) ?_
  refine wl_nil ?_
  refine rk_seq ?_
  refine rk_seq ?_
  refine rk_draw (id := 2) (none) [0, 1, 2, 4, 12, 4, 52, 68, 132, 320, 512, 1536, 2560, 4608, 512, 25088, 33280, 66048] [0, 1, 3, 7, 15, 7, 63, 127, 255, 511, 1023, 2047, 4095, 8191, 1023, 32767, 65535, 131071] 32832 0 [(.p, 0), (.p, 1), (.p, 2), (.p, 3), (.r, 4), (.r, 5), (.l, 6), (.p, 7), (.p, 8), (.p, 9), (.p, 10), (.p, 11), (.p, 12), (.r, 13), (.r, 14), (.l, 15), (.p, 16), (.p, 17)] (by kernel_rfl) (by kernel_rfl) (by kernel_rfl) (by kernel_rfl) (by kernel_rfl) ?_
  replace hw := hw.drew
  replace f5 := f5.d
  replace f4 := f4.d
  replace f := f.d
  refine wl_p (fun _ => o_move rfl) ?_
  refine wl_p (fun _ => o_not rfl) ?_
  refine wl_p (fun _ => o_move rfl) ?_
  refine wl_off ?_
  refine wl_off ?_
  refine wl_off ?_
  refine wl_off ?_
  refine wl_off ?_
  refine wl_p (fun _ => o_pick_t rfl rfl) ?_
  refine wl_p (fun _ => o_move rfl) ?_
  refine wl_off ?_
  refine wl_off ?_
  refine wl_off ?_
  refine wl_off ?_
  refine wl_off ?_
  refine wl_off ?_
  refine wl_off ?_
  refine wl_p (fun _ => o_pick_t rfl rfl) ?_
  refine wl_nild ?_
  refine rk_true rfl ?_
  refine rk_seq ?_
  refine rk_region ?_
  refine wl_p (fun _ => o_assign rfl) ?_
  refine wl_nil ?_
  refine ret1 rfl rfl ?_
  exact ⟨rfl, hS.same hw⟩
def stepS (S : Stt) (wr : Ky) (o : Opn) : Stt × Bool := if OkSt S.1 S.2.1 S.2.2 then stS S wr o else (S, false)
theorem OkSt.ok {S : Stt} (h : OkSt S.1 S.2.1 S.2.2) : StOk S := by
 obtain ⟨⟨h1, h2⟩, ⟨h3, h4⟩, h5, h6, h7⟩ := h
 exact ⟨h5, h6, h7, by omega, by omega, by omega⟩
theorem C_opsStep {A B C K V : Option Addr} {S : Stt} {r : Stt × Bool} {p q : By} {n c n2 c2 n3 c3 mk md : Nat} {ck cv : Nat} {k : Int} {u wr : Ky} (w : World) (hA : RI w A S.1) (hB : RKs w B S.2.1) (hC : RKs w C S.2.2) (hK : Rd w K p) (hV : Rd w V q) (hr : stepS S wr (k, p, q, u) = r) (hn : n = S.1.length) (hn2 : n2 = S.2.1.length) (hn3 : n3 = S.2.2.length) (hmk : mk = p.length) (hmd : md = q.length) (hl : S.1.length ≤ 400000) (hl2 : S.2.1.length ≤ 400000) (hl3 : S.2.2.length ≤ 400000) (hL : LtI S.1) (hp : p.length ≤ 4000000) (hq : q.length ≤ 4000000) :
  CallsR Tryz.prog 15 [.agg #[.slice A n c, .slice B n2 c2, .slice C n3 c3], .agg (B8 wr.1).toArray, .agg (opC k K mk ck V md cv u).toArray] w fun v w' => ∃ A' c' B' d' C' e', v = .tuple #[.agg #[.slice A' r.1.1.length c', .slice B' r.1.2.1.length d', .slice C' r.1.2.2.length e'], .bool r.2] ∧ OwnI w' w.heap.size w'.heap.size A' c' r.1.1 ∧ OwnKs w' w.heap.size w'.heap.size B' d' r.1.2.1 ∧ OwnKs w' w.heap.size w'.heap.size C' e' r.1.2.2 ∧ Below w.heap.size w w' := by
 subst hn; subst hn2; subst hn3; subst hmk; subst hmd
 unfold stepS at hr
 refine callsR Tryz.func15 rfl rfl (by kernel_rfl) rfl ?_
 have hw := Below.refl w.heap.size w
 by_cases h1 : OkSt S.1 S.2.1 S.2.2
 ·rw [if_pos h1] at hr
  refine rk_seq ?_
  refine rk_region ?_
  refine wl_boxg [_, _, _] rfl (by rfl) ?_
  rintro g3 w3 f3 b3 i3 i3_1
  have s3 := b3.size
  replace hw := hw.trans (b3.mono hw.size)
  refine wl_boxg _ rfl (by rfl) ?_
  rintro g4 w4 f4 b4 i4 i4_1
  have s4 := b4.size
  replace hw := hw.trans (b4.mono hw.size)
  replace f3 := f3.u b4
  refine wl_boxg _ rfl (by rfl) ?_
  rintro g5 w5 f5 b5 i5 i5_1
  have s5 := b5.size
  replace hw := hw.trans (b5.mono hw.size)
  replace f3 := f3.u b5
  replace f4 := f4.u b5
  refine wl_allocg [_, _, _] Tryz.zeroValue31 (by rfl) ?_
  rintro g6 w6 f6 b6 i6 i6_1
  have s6 := b6.size
  replace hw := hw.trans (b6.mono hw.size)
  replace f4 := f4.u b6
  replace f3 := f3.u b6
  replace f5 := f5.u b6
  refine wl_p (fun _ => o_assign rfl) ?_
  refine wl_nil ?_
  refine rk_seq ?_
  refine rk_region ?_
  refine wl_r (o_loadag Tryz.isAgg31 Tryz.sizeOf31 rfl f3 (by rfl)) ?_
  refine wl_call rfl (C_clone _ (hA.u hw) (hB.u hw) (hC.u hw) rfl rfl rfl (by omega) (by omega) (by omega) (by omega)) ?_
  rintro v10 w10 ⟨A10, ⟨c10, ⟨B10, ⟨d10, ⟨C10, ⟨e10, ⟨m110, ⟨m210, ⟨rfl, ⟨f10, ⟨f10_1, ⟨f10_2, ⟨i10, ⟨i10_1, ⟨i10_2, b10⟩⟩⟩⟩⟩⟩⟩⟩⟩⟩⟩⟩⟩⟩⟩
  have qf10 := f10.cap
  have qf10_1 := f10_1.cap
  have qf10_2 := f10_2.cap
  have s10 := b10.size
  replace hw := hw.trans (b10.mono hw.size)
  replace f5 := f5.u b10
  replace f3 := f3.u b10
  replace f4 := f4.u b10
  replace f6 := f6.u b10
  refine wl_storega Tryz.sizeOf31 rfl rfl (by rfl) (oneCell_of (by rfl)) f3 (by rfl) ?_
  rintro w_1 f g e
  have s := g.size
  replace hw := hw.trans (below_of_grownBy g.g hw.size (by omega))
  replace f6 := f6.k g.g (ap_some (by omega))
  replace f4 := f4.k g.g (ap_some (by omega))
  replace f5 := f5.k g.g (ap_some (by omega))
  replace f10_2 := f10_2.y g (by decide)
  replace f10_1 := f10_1.y g (by decide)
  replace f10 := f10.y g (by decide)
  clear f3
  refine wl_nil ?_
  refine rk_seq ?_
  refine rk_seq ?_
  refine rk_region ?_
  refine wl_r (o_loadag Tryz.isAgg31 Tryz.sizeOf31 rfl f (by rfl)) ?_
  refine wl_call rfl (C_checkStateOk _ f10.to_RI f10_1.to_RKs f10_2.to_RKs rfl rfl rfl (by omega) (by omega) (by omega) (by omega) (by omega)) ?_
  rintro v12 w12 ⟨rfl, b12⟩
  have s12 := b12.size
  replace hw := hw.trans (b12.mono hw.size)
  replace f10 := f10.u b12
  replace f10_1 := f10_1.u b12
  replace f10_2 := f10_2.u b12
  replace f5 := f5.u b12
  replace f4 := f4.u b12
  replace f6 := f6.u b12
  replace f := f.u b12
  refine wl_p (fun _ => o_ne rfl rfl) ?_
  refine wl_nil ?_
  refine rk_false rfl ?_
  refine rk_skip ?_
  refine rk_seq ?_
  refine rk_region ?_
  refine wl_r (o_ldKyB rfl f4) ?_
  refine wl_r (o_loadag Tryz.isAgg54 Tryz.sizeOf54 rfl f5 (opC_length ..)) ?_
  have hS : StAt w12 w6.heap.size g3 S := ⟨A10, c10, B10, d10, C10, e10, f, f10.base (Nat.le_refl _) (by omega), f10_1.base (by omega) (by omega), f10_2.base (by omega) (by omega), fun k hk e => by
   have x1 := (f10_1.rng k hk).2
   have x2 := (f10_2.rng k e).1
   omega, by omega⟩
  refine wl_call rfl (K_step w12 hS h1.ok (hK.below hw) (hV.below hw) rfl rfl hp hq) ?_
  rintro _ w17 ⟨rfl, e1, e2⟩
  rw [hr] at e1 ⊢
  obtain ⟨A1, a1, A2, a2, A3, a3, z0, z1, z2, z3, z4, z5⟩ := e1.ex
  obtain ⟨x1, x2, r1, r2, y1, y2, y3, t1, t2⟩ := e2.ex
  have s1 := y1.size
  have s2 := y2.size
  have s3 := y3.size
  have hws := hw.size
  have f6b := ((f6.y y1 (by decide)).y y2 (by decide)).k y3.g (ap_some (lo := g6) (hi := g6 + 1) (by omega))
  have hw2 : Below w.heap.size w w17 := hw.trans (((y1.below hws (fun k hk => by have := t1 k hk; omega)).trans (y2.below (by omega) (fun k hk => by have := t2 k hk; omega))).trans (y3.below (by omega) (fun k hk => by injection hk with hk; omega)))
  clear hw f f10 f10_1 f10_2 f5 f4 f6 hS e1 e2
  have hw := hw2
  refine wl_p (fun _ => o_assign rfl) ?_
  refine wl_nil ?_
  refine rk_seq ?_
  refine rk_region ?_
  refine wl_r (o_loadag Tryz.isAgg31 Tryz.sizeOf31 rfl z0 (by rfl)) ?_
  refine wl_p (fun _ => o_move rfl) ?_
  refine wl_storega Tryz.sizeOf31 rfl rfl (by rfl) (oneCell_of (by rfl)) f6b (by rfl) ?_
  rintro w_2 f g_1 e_1
  have s_1 := g_1.size
  replace hw2 := hw2.trans (below_of_grownBy g_1.g hw2.size (by omega))
  replace hw := hw.trans (below_of_grownBy g_1.g hw.size (by omega))
  replace z3 := z3.y g_1 (by decide)
  replace z2 := z2.y g_1 (by decide)
  replace z1 := z1.y g_1 (by decide)
  replace z0 := z0.k g_1.g (ap_some (by omega))
  clear f6b
  refine wl_p (fun _ => o_assign rfl) ?_
  refine wl_nil ?_
  refine ret_any rfl (.cell rfl Tryz.isAgg31 Tryz.sizeOf31 (by assumption) rfl <| .tmp rfl <| .nil) (by simp) ?_
  exact ⟨A1, a1, A2, a2, A3, a3, rfl, z1.base (by omega) (by omega), z2.base (by omega) (by omega), z3.base (by omega) (by omega), hw⟩
 ·rw [if_neg h1] at hr
  subst hr
  refine rk_seq ?_
  refine rk_region ?_
  refine wl_boxg [_, _, _] rfl (by rfl) ?_
  rintro g3 w3 f3 b3 i3 i3_1
  have s3 := b3.size
  replace hw := hw.trans (b3.mono hw.size)
  refine wl_boxg _ rfl (by rfl) ?_
  rintro g4 w4 f4 b4 i4 i4_1
  have s4 := b4.size
  replace hw := hw.trans (b4.mono hw.size)
  replace f3 := f3.u b4
  refine wl_boxg _ rfl (by rfl) ?_
  rintro g5 w5 f5 b5 i5 i5_1
  have s5 := b5.size
  replace hw := hw.trans (b5.mono hw.size)
  replace f3 := f3.u b5
  replace f4 := f4.u b5
  refine wl_allocg [_, _, _] Tryz.zeroValue31 (by rfl) ?_
  rintro g6 w6 f6 b6 i6 i6_1
  have s6 := b6.size
  replace hw := hw.trans (b6.mono hw.size)
  replace f4 := f4.u b6
  replace f3 := f3.u b6
  replace f5 := f5.u b6
  refine wl_p (fun _ => o_assign rfl) ?_
  refine wl_nil ?_
  refine rk_seq ?_
  refine rk_region ?_
  refine wl_r (o_loadag Tryz.isAgg31 Tryz.sizeOf31 rfl f3 (by rfl)) ?_
  refine wl_call rfl (C_clone _ (hA.u hw) (hB.u hw) (hC.u hw) rfl rfl rfl (by omega) (by omega) (by omega) (by omega)) ?_
  rintro v10 w10 ⟨A10, ⟨c10, ⟨B10, ⟨d10, ⟨C10, ⟨e10, ⟨m110, ⟨m210, ⟨rfl, ⟨f10, ⟨f10_1, ⟨f10_2, ⟨i10, ⟨i10_1, ⟨i10_2, b10⟩⟩⟩⟩⟩⟩⟩⟩⟩⟩⟩⟩⟩⟩⟩
  have qf10 := f10.cap
  have qf10_1 := f10_1.cap
  have qf10_2 := f10_2.cap
  have s10 := b10.size
  replace hw := hw.trans (b10.mono hw.size)
  replace f5 := f5.u b10
  replace f3 := f3.u b10
  replace f4 := f4.u b10
  replace f6 := f6.u b10
  refine wl_storega Tryz.sizeOf31 rfl rfl (by rfl) (oneCell_of (by rfl)) f3 (by rfl) ?_
  rintro w_1 f g e
  have s := g.size
  replace hw := hw.trans (below_of_grownBy g.g hw.size (by omega))
  replace f6 := f6.k g.g (ap_some (by omega))
  replace f4 := f4.k g.g (ap_some (by omega))
  replace f5 := f5.k g.g (ap_some (by omega))
  replace f10_2 := f10_2.y g (by decide)
  replace f10_1 := f10_1.y g (by decide)
  replace f10 := f10.y g (by decide)
  clear f3
  refine wl_nil ?_
  refine rk_seq ?_
  refine rk_seq ?_
  refine rk_region ?_
  refine wl_r (o_loadag Tryz.isAgg31 Tryz.sizeOf31 rfl f (by rfl)) ?_
  refine wl_call rfl (C_checkStateBad _ f10.to_RI f10_1.to_RKs f10_2.to_RKs rfl rfl rfl (by omega) (by omega) (by omega) (by omega) (by omega)) ?_
  rintro v12 w12 ⟨rfl, b12⟩
  have s12 := b12.size
  replace hw := hw.trans (b12.mono hw.size)
  replace f10 := f10.u b12
  replace f10_1 := f10_1.u b12
  replace f10_2 := f10_2.u b12
  replace f5 := f5.u b12
  replace f4 := f4.u b12
  replace f6 := f6.u b12
  replace f := f.u b12
  refine wl_p (fun _ => o_ne rfl rfl) ?_
  refine wl_nil ?_
  refine rk_true rfl ?_
  refine rk_seq ?_
  refine rk_region ?_
  refine wl_r (o_loadag Tryz.isAgg31 Tryz.sizeOf31 rfl f (by rfl)) ?_
  refine wl_storega Tryz.sizeOf31 rfl rfl (by rfl) (oneCell_of (by rfl)) f6 (by rfl) ?_
  rintro w_2 f_1 g_1 e_1
  have s_1 := g_1.size
  replace hw := hw.trans (below_of_grownBy g_1.g hw.size (by omega))
  replace f := f.k g_1.g (ap_some (by omega))
  replace f4 := f4.k g_1.g (ap_some (by omega))
  replace f5 := f5.k g_1.g (ap_some (by omega))
  replace f10_2 := f10_2.y g_1 (by decide)
  replace f10_1 := f10_1.y g_1 (by decide)
  replace f10 := f10.y g_1 (by decide)
  clear f6
  refine wl_p (fun _ => o_assign rfl) ?_
  refine wl_nil ?_
  refine ret_any rfl (.cell rfl Tryz.isAgg31 Tryz.sizeOf31 (by assumption) rfl <| .tmp rfl <| .nil) (by simp) ?_
  exact ⟨A10, c10, B10, d10, C10, e10, rfl, f10.base (by omega) (by omega), f10_1.base (by omega) (by omega), f10_2.base (by omega) (by omega), hw⟩
end Go.Proofs.YtahkeoegbjopfaaGreat
/-
  The chapter's examples.
-/
namespace Go.Proofs.YtahkeoegbjopfaaGreat
set_option maxRecDepth 100000
open Go.RowKit
section
variable {P : Program} {fn : Func} {F : Ending → World → Prop} {N : Nat} {ks : List K} {ops : Array Oper} {tg : Tags} {l : List Oper} {fr : Fr} {w : World} {ty src dst : TypeId} {pos : String} {aft : Array Edge} {gd : Option (Nat × Bool)} {d : Nat} {x : Operand} {p : By}
theorem wl_cvS (hs : P.underlying src = some .string) (hds : P.underlying dst = some (.slice 5)) (he : P.underlying 5 = some (.int .u8)) (hx : fr.ev x = some (.string ⟨p.toArray⟩)) (hl : p.length ≤ 1000000)
  (hk : ∀ A c w', RdT w' A p → p.length ≤ c → c ≤ maxLen → Below w.heap.size w w' → WL P fn F N ks ops tg.tail l ((d, .slice A p.length c) :: fr) w')
  (ht : tg.loud = true := by rfl) (hg : onG ops fr gd = true := by rfl) (hd : Nat.blt d N = true := by rfl) : WL P fn F N ks ops tg (⟨some d, .convert src dst x, ty, pos, aft, gd⟩ :: l) fr w := by
 have hsz : (⟨p.toArray⟩ : ByteArray).size = p.length := rfl
 have hrun := run_bytes_of_string (P := P) w src dst 5 ⟨p.toArray⟩ hs hds he
 rw [hsz] at hrun
 have hge := grownCap_ge w p.length 0 5
 have hcm : grownCap w p.length 0 5 ≤ maxLen := grownCap_le_maxLen w p.length 0 5 (by simp only [maxLen]; omega)
 generalize hq : grownCap w p.length 0 5 = cq at *
 generalize hf : ((bytesRow ⟨p.toArray⟩ cq).size, (bytesRow ⟨p.toArray⟩ cq).size + 1) = fq at *
 have hbl : Below w.heap.size w (w.drew.alloc (.cells (bytesRow ⟨p.toArray⟩ cq) 5 fq)) := ((Below.refl w.heap.size w).drew.alloc (Nat.le_refl _) _)
 refine wl_v (fun a ha o ho _ => by simp [execOp, ho, ha.ev hx, hrun]) (hk _ _ _ ⟨⟨by rw [B8_length, Nat.mul_one], fun _ => ⟨w.heap.size, 0, rfl, fun j v hj => ?_⟩⟩, fun k hk => ?_⟩ hge hcm hbl) ht hg hd (.inr (grown_of_below hbl _))
 ·have h0 : (w.drew.alloc (.cells (bytesRow ⟨p.toArray⟩ cq) 5 fq)).cell? ⟨w.heap.size, j, none⟩ = (bytesRow ⟨p.toArray⟩ cq)[j]? := World.cell?_alloc_mark w.drew _ 5 fq j
  rw [Nat.zero_add, h0]
  have hjl : j < p.length := by
   rcases Nat.lt_or_ge j p.length with h | h
   ·exact h
   ·rw [List.getElem?_eq_none (by rw [B8_length]; exact h)] at hj; cases hj
  rw [bytesRow_at _ _ _ (by simpa using hjl)]
  rw [B8_get p j hjl] at hj
  simpa using hj
 ·obtain rfl : w.heap.size = k := by simpa [blk] using hk
  exact ⟨bytesRow ⟨p.toArray⟩ cq, fq, by show (w.heap.push _)[w.heap.size]? = _; simp⟩
end
def kA : Ky := ⟨1 :: List.replicate 31 0, rfl⟩
def kB : Ky := ⟨2 :: List.replicate 31 0, rfl⟩
theorem C_a (w : World) : CallsR Tryz.prog 31 [] w fun v w' => v = .agg (B8 kA.1).toArray ∧ Below w.heap.size w w' := by
 refine callsR Tryz.func31 rfl rfl (by kernel_rfl) rfl ?_
 have hw := Below.refl w.heap.size w
 refine rk_seq ?_
 refine rk_region ?_
 refine wl_allocg [_, _, _, _, _, _, _, _, _, _, _, _, _, _, _, _, _, _, _, _, _, _, _, _, _, _, _, _, _, _, _, _] Tryz.zeroValue42 (by rfl) ?_
 rintro g0 w0 f0 b0 i0 i0_1
 have s0 := b0.size
 replace hw := hw.trans (b0.mono hw.size)
 refine wl_nil ?_
 refine rk_seq ?_
 refine rk_region ?_
 refine wl_p (fun _ => (o_buildga [_, _, _, _, _, _, _, _, _, _, _, _, _, _, _, _, _, _, _, _, _, _, _, _, _, _, _, _, _, _, _, _] Tryz.underlying42 Tryz.sizeOf5 Tryz.zeroValue42 (by rfl) (by rfl) rfl (by rfl) (by rfl) (fun _ => by kernel_rfl))) ?_
 refine wl_storega Tryz.sizeOf42 rfl rfl (by rfl) (by decide) f0 (by rfl) ?_
 rintro w_1 f g e
 have s := g.size
 replace hw := hw.trans (below_of_grownBy g.g hw.size (by omega))
 clear f0
 refine wl_nil ?_
 refine ret_cell rfl rfl Tryz.isAgg42 Tryz.sizeOf42 (by assumption) rfl ?_
 exact ⟨rfl, hw⟩
theorem C_b (w : World) : CallsR Tryz.prog 33 [] w fun v w' => v = .agg (B8 kB.1).toArray ∧ Below w.heap.size w w' := by
 refine callsR Tryz.func33 rfl rfl (by kernel_rfl) rfl ?_
 have hw := Below.refl w.heap.size w
 refine rk_seq ?_
 refine rk_region ?_
 refine wl_allocg [_, _, _, _, _, _, _, _, _, _, _, _, _, _, _, _, _, _, _, _, _, _, _, _, _, _, _, _, _, _, _, _] Tryz.zeroValue42 (by rfl) ?_
 rintro g0 w0 f0 b0 i0 i0_1
 have s0 := b0.size
 replace hw := hw.trans (b0.mono hw.size)
 refine wl_nil ?_
 refine rk_seq ?_
 refine rk_region ?_
 refine wl_p (fun _ => (o_buildga [_, _, _, _, _, _, _, _, _, _, _, _, _, _, _, _, _, _, _, _, _, _, _, _, _, _, _, _, _, _, _, _] Tryz.underlying42 Tryz.sizeOf5 Tryz.zeroValue42 (by rfl) (by rfl) rfl (by rfl) (by rfl) (fun _ => by kernel_rfl))) ?_
 refine wl_storega Tryz.sizeOf42 rfl rfl (by rfl) (by decide) f0 (by rfl) ?_
 rintro w_1 f g e
 have s := g.size
 replace hw := hw.trans (below_of_grownBy g.g hw.size (by omega))
 clear f0
 refine wl_nil ?_
 refine ret_cell rfl rfl Tryz.isAgg42 Tryz.sizeOf42 (by assumption) rfl ?_
 exact ⟨rfl, hw⟩
theorem C_alone (w : World) : CallsR Tryz.prog 11 [] w fun v w' => ∃ B C, v = .agg #[.slice none 0 0, .slice B 1 1, .slice C 1 1] ∧ RKT w' B [kA] ∧ RKT w' C [kA] ∧ Below w.heap.size w w' := by
 refine callsR Tryz.func11 rfl rfl (by kernel_rfl) rfl ?_
 have hw := Below.refl w.heap.size w
 refine rk_seq ?_
 refine rk_region ?_
 refine wl_allocg [_, _, _] Tryz.zeroValue31 (by rfl) ?_
 rintro g0 w0 f0 b0 i0 i0_1
 have s0 := b0.size
 replace hw := hw.trans (b0.mono hw.size)
 refine wl_nil ?_
 refine rk_seq ?_
 refine rk_region ?_
 refine wl_call rfl (C_a _) ?_
 rintro v1 w1 ⟨rfl, b1⟩
 have s1 := b1.size
 replace hw := hw.trans (b1.mono hw.size)
 replace f0 := f0.u b1
 refine wl_litKs1 (by rfl) rfl (by rfl) ?_
 rintro A2 w2 f2 b2
 have qf2 := f2.cap
 have s2 := b2.size
 replace hw := hw.trans (b2.mono hw.size)
 replace f0 := f0.u b2
 refine wl_call rfl (C_a _) ?_
 rintro v3 w3 ⟨rfl, b3⟩
 have s3 := b3.size
 replace hw := hw.trans (b3.mono hw.size)
 replace f0 := f0.u b3
 replace f2 := f2.u b3
 refine wl_litKs1 (by rfl) rfl (by rfl) ?_
 rintro A4 w4 f4 b4
 have qf4 := f4.cap
 have s4 := b4.size
 replace hw := hw.trans (b4.mono hw.size)
 replace f2 := f2.u b4
 replace f0 := f0.u b4
 refine wl_p (fun _ => (o_buildg [_, _, _] Tryz.underlying31 Tryz.zeroValue31 (by rfl) (by rfl) rfl (by rfl) (by rfl) (fun _ => by kernel_rfl))) ?_
 refine wl_storega Tryz.sizeOf31 rfl rfl (by rfl) (oneCell_of (by rfl)) f0 (by rfl) ?_
 rintro w_1 f g e
 have s := g.size
 replace hw := hw.trans (below_of_grownBy g.g hw.size (by omega))
 replace f2 := f2.y g (by decide)
 replace f4 := f4.y g (by decide)
 clear f0
 refine wl_nil ?_
 refine ret_cell rfl rfl Tryz.isAgg31 Tryz.sizeOf31 (by assumption) rfl ?_
 exact ⟨A2, A4, rfl, f2.to_RKT, f4.to_RKT, hw⟩
theorem C_put {p q : By} (w : World) (hp : p.length ≤ 1000) (hq : q.length ≤ 1000) : CallsR Tryz.prog 32 [.string ⟨p.toArray⟩, .string ⟨q.toArray⟩] w fun v w' => ∃ K c V d, v = .agg (opC 1 K p.length c V q.length d z32).toArray ∧ RdT w' K p ∧ p.length ≤ c ∧ c ≤ maxLen ∧ RdT w' V q ∧ q.length ≤ d ∧ d ≤ maxLen ∧ Below w.heap.size w w' := by
 refine callsR Tryz.func32 rfl rfl (by kernel_rfl) rfl ?_
 have hw := Below.refl w.heap.size w
 refine rk_seq ?_
 refine rk_region ?_
 refine wl_allocOp ?_
 rintro g4 w4 f4 b4 i4 i4_1
 have s4 := b4.size
 replace hw := hw.trans (b4.mono hw.size)
 refine wl_nil ?_
 refine rk_seq ?_
 refine rk_region ?_
 refine wl_p (fun _ => o_move rfl) ?_
 refine wl_cvS Tryz.underlying9 Tryz.underlying39 Tryz.underlying5 rfl (by omega) ?_
 rintro A6 c6 w6 f6 i6 i6_1 b6
 have s6 := b6.size
 replace hw := hw.trans (b6.mono hw.size)
 replace f4 := f4.u b6
 refine wl_p (fun _ => o_move rfl) ?_
 refine wl_cvS Tryz.underlying9 Tryz.underlying39 Tryz.underlying5 rfl (by omega) ?_
 rintro A8 c8 w8 f8 i8 i8_1 b8
 have s8 := b8.size
 replace hw := hw.trans (b8.mono hw.size)
 replace f4 := f4.u b8
 replace f6 := f6.u b8
 refine wl_p (fun _ => (o_bldOp012 rfl rfl rfl)) ?_
 refine wl_stOpB rfl f4 rfl ?_
 rintro w_1 f g e
 have s := g.size
 replace hw := hw.trans (below_of_grownBy g.g hw.size (by omega))
 replace f6 := f6.y g (by decide)
 replace f8 := f8.y g (by decide)
 clear f4
 refine wl_nil ?_
 refine ret_cell rfl rfl Tryz.isAgg54 Tryz.sizeOf54 f (opC_length ..) ?_
 exact ⟨A6, c6, A8, c8, rfl, f6, by assumption, by assumption, f8, by assumption, by assumption, hw⟩
structure StepR (I : List (By × By)) (X Y : List Ky) (wr : Ky) (k : Int) (p q : By) (u : Ky) (I' : List (By × By)) (X' Y' : List Ky) (b : Bool) : Prop where
 h : stepS (I, X, Y) wr (k, p, q, u) = ((I', X', Y'), b)
structure GetR (I : List (By × By)) (X Y : List Ky) (p : By) (v : By) (b : Bool) : Prop where
 h : getS I X Y p = (v, b)
theorem C_opsStepN {A B C K V : Option Addr} {I I' : List (By × By)} {X Y X' Y' : List Ky} {bo : Bool} {p q : By} {n c n2 c2 n3 c3 mk md ck cv : Nat} {k : Int} {u wr : Ky} (w : World) (hr : StepR I X Y wr k p q u I' X' Y' bo) (hA : RI w A I) (hB : RKs w B X) (hC : RKs w C Y) (hK : Rd w K p) (hV : Rd w V q) (hn : n = I.length) (hn2 : n2 = X.length) (hn3 : n3 = Y.length) (hmk : mk = p.length) (hmd : md = q.length) (hl : I.length ≤ 400000) (hl2 : X.length ≤ 400000) (hl3 : Y.length ≤ 400000) (hL : LtI I) (hp : p.length ≤ 4000000) (hq : q.length ≤ 4000000) :
  CallsR Tryz.prog 15 [.agg #[.slice A n c, .slice B n2 c2, .slice C n3 c3], .agg (B8 wr.1).toArray, .agg (opC k K mk ck V md cv u).toArray] w fun v w' => ∃ A' c' B' d' C' e', v = .tuple #[.agg #[.slice A' I'.length c', .slice B' X'.length d', .slice C' Y'.length e'], .bool bo] ∧ OwnI w' w.heap.size w'.heap.size A' c' I' ∧ OwnKs w' w.heap.size w'.heap.size B' d' X' ∧ OwnKs w' w.heap.size w'.heap.size C' e' Y' ∧ Below w.heap.size w w' :=
 C_opsStep (S := (I, X, Y)) w hA hB hC hK hV hr.h hn hn2 hn3 hmk hmd hl hl2 hl3 hL hp hq
theorem C_getN {A B C P : Option Addr} {I : List (By × By)} {X Y : List Ky} {p v : By} {bo : Bool} {n c m d q e z f : Nat} (w : World) (hr : GetR I X Y p v bo) (hA : RI w A I) (hB : RKs w B X) (hC : RKs w C Y) (hP : Rd w P p) (hn : n = I.length) (hm : m = X.length) (hq : q = Y.length) (hz : z = p.length) (hl : I.length ≤ 400000) (hl2 : X.length ≤ 400000) (hl3 : Y.length ≤ 400000) (hL : LtI I) (hp : p.length ≤ 4000000) :
  CallsR Tryz.prog 19 [.agg #[.slice A n c, .slice B m d, .slice C q e], .slice P z f] w fun x w' => ∃ A' c', x = .tuple #[.slice A' v.length c', .bool bo] ∧ OwnH w' w.heap.size w'.heap.size A' c' v ∧ Below w.heap.size w w' :=
 C_get w hA hB hC hP hr.h hn hm hq hz hl hl2 hl3 hL hp
theorem C_lives22 (w : World) : CallsR Tryz.prog 6 [] w fun v w' => v = .bool true ∧ Below w.heap.size w w' := by
 have e1 : StepR [] [kA] [kA] kA 1 [107] [118] z32 [([107], [118])] [kA] [kA] true := ⟨by decide +kernel⟩
 have e2 : StepR [([107], [118])] [kA] [kA] kB 1 [107] [119] z32 [([107], [118])] [kA] [kA] false := ⟨by decide +kernel⟩
 have e3 : StepR [] [kA] [kA] kA 6 [] [] kA [] [kA] [kA] false := ⟨by decide +kernel⟩
 have e4 : GetR [([107], [118])] [kA] [kA] [107] [118] true := ⟨by decide +kernel⟩
 refine callsR Tryz.func6 rfl rfl (by kernel_rfl) rfl ?_
 have hw := Below.refl w.heap.size w
 refine rk_seq ?_
 refine rk_region ?_
 refine wl_p (fun _ => o_assign rfl) ?_
 refine wl_nil ?_
 refine rk_seq ?_
 refine rk_region ?_
 refine wl_call rfl (C_alone _) ?_
 rintro v10 w10 ⟨B10, ⟨C10, ⟨rfl, ⟨f10, ⟨f10_1, b10⟩⟩⟩⟩⟩
 have s10 := b10.size
 replace hw := hw.trans (b10.mono hw.size)
 refine wl_call rfl (C_a _) ?_
 rintro v11 w11 ⟨rfl, b11⟩
 have s11 := b11.size
 replace hw := hw.trans (b11.mono hw.size)
 replace f10_1 := f10_1.u b11
 replace f10 := f10.u b11
 refine wl_call rfl (C_put _ (by simp) (by simp)) ?_
 rintro v12 w12 ⟨K12, ⟨c12, ⟨V12, ⟨d12, ⟨rfl, ⟨f12, ⟨i12, ⟨i12_1, ⟨f12_1, ⟨i12_2, ⟨i12_3, b12⟩⟩⟩⟩⟩⟩⟩⟩⟩⟩⟩
 have s12 := b12.size
 replace hw := hw.trans (b12.mono hw.size)
 replace f10 := f10.u b12
 replace f10_1 := f10_1.u b12
 refine wl_call rfl (C_opsStepN _ e1 (RI.nil_) f10.to_RKs f10_1.to_RKs f12.to_Rd f12_1.to_Rd (by rfl) (by rfl) (by rfl) rfl rfl (by simp) (by simp) (by simp) (by simp [LtI]) (by simp) (by simp)) ?_
 rintro v13 w13 ⟨A13, ⟨c13, ⟨B13, ⟨d13, ⟨C13, ⟨e13, ⟨rfl, ⟨f13, ⟨f13_1, ⟨f13_2, b13⟩⟩⟩⟩⟩⟩⟩⟩⟩⟩
 have qf13 := f13.cap
 have qf13_1 := f13_1.cap
 have qf13_2 := f13_2.cap
 have s13 := b13.size
 replace hw := hw.trans (b13.mono hw.size)
 replace f10_1 := f10_1.u b13
 replace f10 := f10.u b13
 replace f12_1 := f12_1.u b13
 replace f12 := f12.u b13
 refine wl_p (fun _ => o_move rfl) ?_
 refine wl_p (fun _ => o_ext20 rfl) ?_
 refine wl_p (fun _ => o_ext21 rfl) ?_
 refine wl_allocg [_, _, _] Tryz.zeroValue31 (by rfl) ?_
 rintro g1 w1 f1 b1 i1 i1_1
 have s1 := b1.size
 replace hw := hw.trans (b1.mono hw.size)
 replace f12 := f12.u b1
 replace f12_1 := f12_1.u b1
 replace f10 := f10.u b1
 replace f10_1 := f10_1.u b1
 replace f13_2 := f13_2.u b1
 replace f13_1 := f13_1.u b1
 replace f13 := f13.u b1
 refine wl_storega Tryz.sizeOf31 rfl rfl (by rfl) (oneCell_of (by rfl)) f1 (by rfl) ?_
 rintro w_1 f g e
 have s := g.size
 replace hw := hw.trans (below_of_grownBy g.g hw.size (by omega))
 replace f13 := f13.y g (by decide)
 replace f13_1 := f13_1.y g (by decide)
 replace f13_2 := f13_2.y g (by decide)
 replace f10_1 := f10_1.y g (by decide)
 replace f10 := f10.y g (by decide)
 replace f12_1 := f12_1.y g (by decide)
 replace f12 := f12.y g (by decide)
 clear f1
 refine wl_p (fun _ => o_assign rfl) ?_
 refine wl_nil ?_
 refine rk_seq ?_
 refine rk_drawo (id := 2) (none) [0, 0, 2, 7, 8, 16, 16, 0, 191, 511] [0, 0, 2, 7, 15, 31, 31, 0, 191, 511] 398 134 [0] [(.s, 0), (.f 1 398 134, 9)] (by kernel_rfl) (by kernel_rfl) (by kernel_rfl) (by kernel_rfl) (by kernel_rfl) ?_
 dsimp only [inOrder, nthOp]
 replace hw := hw.drew
 replace f12 := f12.d
 replace f12_1 := f12_1.d
 replace f10 := f10.d
 replace f10_1 := f10_1.d
 replace f13_2 := f13_2.d
 replace f13_1 := f13_1.d
 replace f13 := f13.d
 replace f := f.d
 refine wl_s (fun _ hk => (o_loadag Tryz.isAgg31 Tryz.sizeOf31 rfl (f.u (below_of_grown_none hk)) (by rfl))) ?_
 have hw1 := Below.refl w_1.drew.heap.size w_1.drew
 have hg1 := f.lt
 refine wl_forkf (m := 1) (L := 398) (C := 134) (n := 9) (k1 := 1) (k2 := 7) (fun fb fr w' => ∃ g3 A' c' B' d' C' e', fr = [(3, .pointer (some ⟨g3, 0, none⟩)), (21, .agg #[.slice A' [(([107] : By), ([118] : By))].length c', .slice B' [kA].length d', .slice C' [kA].length e']), (22, .bool false)] ++ fb ∧ Blk w' g3 31 [.slice none 0 0, .slice none 0 0, .slice none 0 0] ∧ g1 < g3 ∧ Below w_1.drew.heap.size w_1.drew w') [0, 0, 2, 7, 8, 16, 16, 0, 191, 511] [0, 0, 2, 7, 15, 31, 31, 0, 191, 511] [1] [7, 1, 2, 3, 4, 5, 6, 8, 9] [8, 9] [(.f 3 398 134, 8)] [(.c, 1), (.c, 2), (.l, 3), (.p, 4), (.p, 5), (.p, 6), (.l, 8), (.p, 9)] [(.l, 8), (.p, 9)] (by kernel_rfl) (by kernel_rfl) (by kernel_rfl) (by kernel_rfl) (by kernel_rfl) ?_ (fun hj => ?_) (fun hj => ?_) <;> dsimp only [inOrder, nthOp]
 ·clear hw1
  rintro fr w' ⟨g3, A', c', B', d', C', e', rfl, f3, h3, hw1⟩
  first | refine rk_frame (by simp only [List.cons_append, List.nil_append, List.drop_succ_cons, List.drop_zero]; rfl) ?_ | refine wl_frame (by simp only [List.cons_append, List.nil_append, List.drop_succ_cons, List.drop_zero]; rfl) ?_
  have shw1 := hw1.size
  simp only [drew_size] at shw1
  replace hw := hw.trans (hw1.mono hw.size)
  replace f := f.u hw1
  replace f13 := f13.u hw1
  replace f13_1 := f13_1.u hw1
  replace f13_2 := f13_2.u hw1
  replace f10_1 := f10_1.u hw1
  replace f10 := f10.u hw1
  replace f12_1 := f12_1.u hw1
  replace f12 := f12.u hw1
  refine wl_storega Tryz.sizeOf31 rfl rfl (by rfl) (oneCell_of (by rfl)) f3 (by rfl) ?_
  rintro w_2 f_1 g_1 e_1
  have s_1 := g_1.size
  replace hw := hw.trans (below_of_grownBy g_1.g hw.size (by omega))
  replace f12 := f12.y g_1 (by decide)
  replace f12_1 := f12_1.y g_1 (by decide)
  replace f10 := f10.y g_1 (by decide)
  replace f10_1 := f10_1.y g_1 (by decide)
  replace f13_2 := f13_2.y g_1 (by decide)
  replace f13_1 := f13_1.y g_1 (by decide)
  replace f13 := f13.y g_1 (by decide)
  replace f := f.k g_1.g (ap_some (by omega))
  clear f3
  refine wl_p (fun _ => o_assign rfl) ?_
  refine wl_nild ?_
  refine rk_seq ?_
  refine rk_region ?_
  refine wl_call rfl (C_alone _) ?_
  rintro v24 w24 ⟨B24, ⟨C24, ⟨rfl, ⟨f24, ⟨f24_1, b24⟩⟩⟩⟩⟩
  have s24 := b24.size
  replace hw := hw.trans (b24.mono hw.size)
  replace f := f.u b24
  replace f13 := f13.u b24
  replace f13_1 := f13_1.u b24
  replace f13_2 := f13_2.u b24
  replace f10_1 := f10_1.u b24
  replace f10 := f10.u b24
  replace f12_1 := f12_1.u b24
  replace f12 := f12.u b24
  replace f_1 := f_1.u b24
  refine wl_call rfl (C_a _) ?_
  rintro v25 w25 ⟨rfl, b25⟩
  have s25 := b25.size
  replace hw := hw.trans (b25.mono hw.size)
  replace f_1 := f_1.u b25
  replace f12 := f12.u b25
  replace f12_1 := f12_1.u b25
  replace f10 := f10.u b25
  replace f10_1 := f10_1.u b25
  replace f13_2 := f13_2.u b25
  replace f13_1 := f13_1.u b25
  replace f13 := f13.u b25
  replace f := f.u b25
  replace f24_1 := f24_1.u b25
  replace f24 := f24.u b25
  refine wl_call rfl (C_a _) ?_
  rintro v26 w26 ⟨rfl, b26⟩
  have s26 := b26.size
  replace hw := hw.trans (b26.mono hw.size)
  replace f24 := f24.u b26
  replace f24_1 := f24_1.u b26
  replace f := f.u b26
  replace f13 := f13.u b26
  replace f13_1 := f13_1.u b26
  replace f13_2 := f13_2.u b26
  replace f10_1 := f10_1.u b26
  replace f10 := f10.u b26
  replace f12_1 := f12_1.u b26
  replace f12 := f12.u b26
  replace f_1 := f_1.u b26
  refine wl_p (fun _ => (o_bldOp03 rfl rfl)) ?_
  refine wl_call rfl (C_opsStepN _ e3 (RI.nil_) f24.to_RKs f24_1.to_RKs (Rd.nil_) (Rd.nil_) (by rfl) (by rfl) (by rfl) (by rfl) (by rfl) (by simp) (by simp) (by simp) (by simp [LtI]) (by simp) (by simp)) ?_
  rintro v28 w28 ⟨A28, ⟨c28, ⟨B28, ⟨d28, ⟨C28, ⟨e28, ⟨rfl, ⟨f28, ⟨f28_1, ⟨f28_2, b28⟩⟩⟩⟩⟩⟩⟩⟩⟩⟩
  have qf28 := f28.cap
  have qf28_1 := f28_1.cap
  have qf28_2 := f28_2.cap
  have s28 := b28.size
  replace hw := hw.trans (b28.mono hw.size)
  replace f_1 := f_1.u b28
  replace f12 := f12.u b28
  replace f12_1 := f12_1.u b28
  replace f10 := f10.u b28
  replace f10_1 := f10_1.u b28
  replace f13_2 := f13_2.u b28
  replace f13_1 := f13_1.u b28
  replace f13 := f13.u b28
  replace f := f.u b28
  replace f24_1 := f24_1.u b28
  replace f24 := f24.u b28
  refine wl_p (fun _ => o_move rfl) ?_
  refine wl_p (fun _ => o_ext20 rfl) ?_
  refine wl_p (fun _ => o_ext21 rfl) ?_
  refine wl_allocg [_, _, _] Tryz.zeroValue31 (by rfl) ?_
  rintro g5 w5 f5 b5 i5 i5_1
  have s5 := b5.size
  replace hw := hw.trans (b5.mono hw.size)
  replace f24 := f24.u b5
  replace f24_1 := f24_1.u b5
  replace f := f.u b5
  replace f13 := f13.u b5
  replace f13_1 := f13_1.u b5
  replace f13_2 := f13_2.u b5
  replace f10_1 := f10_1.u b5
  replace f10 := f10.u b5
  replace f12_1 := f12_1.u b5
  replace f12 := f12.u b5
  replace f_1 := f_1.u b5
  replace f28_2 := f28_2.u b5
  replace f28_1 := f28_1.u b5
  replace f28 := f28.u b5
  refine wl_storega Tryz.sizeOf31 rfl rfl (by rfl) (oneCell_of (by rfl)) f5 (by rfl) ?_
  rintro w_3 f_2 g_2 e_2
  have s_2 := g_2.size
  replace hw := hw.trans (below_of_grownBy g_2.g hw.size (by omega))
  replace f28 := f28.y g_2 (by decide)
  replace f28_1 := f28_1.y g_2 (by decide)
  replace f28_2 := f28_2.y g_2 (by decide)
  replace f12 := f12.y g_2 (by decide)
  replace f12_1 := f12_1.y g_2 (by decide)
  replace f10 := f10.y g_2 (by decide)
  replace f10_1 := f10_1.y g_2 (by decide)
  replace f13_2 := f13_2.y g_2 (by decide)
  replace f13_1 := f13_1.y g_2 (by decide)
  replace f13 := f13.y g_2 (by decide)
  replace f := f.k g_2.g (ap_some (by omega))
  replace f24_1 := f24_1.y g_2 (by decide)
  replace f24 := f24.y g_2 (by decide)
  clear f_1
  clear f5
  refine wl_p (fun _ => o_assign rfl) ?_
  refine wl_nil ?_
  refine rk_seq ?_
  refine rk_region ?_
  refine wl_r (o_loadag Tryz.isAgg31 Tryz.sizeOf31 rfl f (by rfl)) ?_
  refine wl_litC [107] Tryz.u8 Tryz.sizeOf5 Tryz.zeroValue5 (by rfl) rfl rfl (by rfl) (by rfl) (by rfl) ?_
  rintro A33 w33 f33 b33
  have s33 := b33.size
  replace hw := hw.trans (b33.mono hw.size)
  replace f24 := f24.u b33
  replace f24_1 := f24_1.u b33
  replace f := f.u b33
  replace f13 := f13.u b33
  replace f13_1 := f13_1.u b33
  replace f13_2 := f13_2.u b33
  replace f10_1 := f10_1.u b33
  replace f10 := f10.u b33
  replace f12_1 := f12_1.u b33
  replace f12 := f12.u b33
  replace f28_2 := f28_2.u b33
  replace f28_1 := f28_1.u b33
  replace f28 := f28.u b33
  replace f_2 := f_2.u b33
  refine wl_call rfl (C_getN _ e4 f13.to_RI f13_1.to_RKs f13_2.to_RKs f33.to_Rd rfl rfl rfl (by rfl) (by simp) (by simp) (by simp) (by simp [LtI]) (by simp)) ?_
  rintro v35 w35 ⟨A35, ⟨c35, ⟨rfl, ⟨f35, b35⟩⟩⟩⟩
  have qf35 := f35.cap
  have s35 := b35.size
  replace hw := hw.trans (b35.mono hw.size)
  replace f_2 := f_2.u b35
  replace f28 := f28.u b35
  replace f28_1 := f28_1.u b35
  replace f28_2 := f28_2.u b35
  replace f12 := f12.u b35
  replace f12_1 := f12_1.u b35
  replace f10 := f10.u b35
  replace f10_1 := f10_1.u b35
  replace f13_2 := f13_2.u b35
  replace f13_1 := f13_1.u b35
  replace f13 := f13.u b35
  replace f := f.u b35
  replace f24_1 := f24_1.u b35
  replace f24 := f24.u b35
  replace f33 := f33.u b35
  refine wl_p (fun _ => o_move rfl) ?_
  refine wl_p (fun _ => o_ext20 rfl) ?_
  refine wl_p (fun _ => o_ext21 rfl) ?_
  refine wl_p (fun _ => o_assign rfl) ?_
  refine wl_p (fun _ => o_assign rfl) ?_
  refine wl_nil ?_
  refine rk_seq ?_
  refine rk_region ?_
  refine wl_p (fun _ => o_move rfl) ?_
  refine wl_p (fun _ => o_move rfl) ?_
  refine wl_p (fun _ => o_move rfl) ?_
  refine wl_p (fun _ => o_not rfl) ?_
  refine wl_p (fun _ => o_pick_t rfl rfl) ?_
  refine wl_p (fun _ => o_move rfl) ?_
  refine wl_p (fun _ => o_move rfl) ?_
  refine wl_p (fun _ => o_not rfl) ?_
  refine wl_p (fun _ => o_pick_t rfl rfl) ?_
  refine wl_p (fun _ => o_move rfl) ?_
  refine wl_p (fun _ => o_move rfl) ?_
  refine wl_p (fun _ => o_pick_t rfl rfl) ?_
  refine wl_p (fun _ => o_move rfl) ?_
  refine wl_p (fun _ => o_move rfl) ?_
  refine wl_r (o_strU Tryz.underlying39 Tryz.underlying5 Tryz.underlying9 rfl f35.to_Rd (Below.refl _ _) rfl) ?_
  refine wl_p (fun _ => o_seq rfl rfl) ?_
  refine wl_p (fun _ => o_pick_t rfl rfl) ?_
  refine wl_p (fun _ => o_assign rfl) ?_
  refine wl_nil ?_
  refine ret1 rfl rfl ?_
  exact ⟨rfl, hw⟩
 ·refine wl_call rfl (C_b _) ?_ (hq := .inr fun _ _ h => grown_of_below h.2 _)
  rintro v18 w18 ⟨rfl, b18⟩
  simp only [drew_size] at b18
  have s18 := b18.size
  simp only [drew_size] at s18
  replace hw := hw.trans (b18.mono hw.size)
  replace hw1 := hw1.trans (b18.mono hw1.size)
  replace f := f.u b18
  replace f13 := f13.u b18
  replace f13_1 := f13_1.u b18
  replace f13_2 := f13_2.u b18
  replace f10_1 := f10_1.u b18
  replace f10 := f10.u b18
  replace f12_1 := f12_1.u b18
  replace f12 := f12.u b18
  refine wl_fork2j (m := 3) (L := 398) (C := 134) (n := 8) (k1 := 2) (k2 := 7) _ [0, 0, 2, 7, 8, 16, 16, 0, 191, 511] [0, 0, 2, 7, 15, 31, 31, 0, 191, 511] [2] [7, 2, 3, 4, 5, 6, 8, 9] [8, 9] [(.f 7 398 134, 7)] [(.c, 2), (.l, 3), (.p, 4), (.p, 5), (.p, 6), (.l, 8), (.p, 9)] [(.l, 8), (.p, 9)] (by kernel_rfl) (by kernel_rfl) (by kernel_rfl) (by kernel_rfl) (by kernel_rfl) hj (fun hj => ?_) (fun hj => ?_) <;> dsimp only [inOrder, nthOp]
  ·refine wl_call rfl (C_put _ (by simp) (by simp)) ?_ (hq := .inr fun _ _ h => grown_of_below h.choose_spec.choose_spec.choose_spec.choose_spec.2.2.2.2.2.2.2 _)
   rintro v19 w19 ⟨K19, ⟨c19, ⟨V19, ⟨d19, ⟨rfl, ⟨f19, ⟨i19, ⟨i19_1, ⟨f19_1, ⟨i19_2, ⟨i19_3, b19⟩⟩⟩⟩⟩⟩⟩⟩⟩⟩⟩
   have s19 := b19.size
   replace hw := hw.trans (b19.mono hw.size)
   replace hw1 := hw1.trans (b19.mono hw1.size)
   replace f12 := f12.u b19
   replace f12_1 := f12_1.u b19
   replace f10 := f10.u b19
   replace f10_1 := f10_1.u b19
   replace f13_2 := f13_2.u b19
   replace f13_1 := f13_1.u b19
   replace f13 := f13.u b19
   replace f := f.u b19
   refine wl_fork2j (m := 7) (L := 398) (C := 134) (n := 7) (k1 := 3) (k2 := 7) _ [0, 0, 2, 7, 8, 16, 16, 0, 191, 511] [0, 0, 2, 7, 15, 31, 31, 0, 191, 511] [3, 4, 5, 6, 7, 8, 9] [7, 3, 4, 5, 6, 8, 9] [8, 9] [(.p, 4), (.p, 5), (.p, 6), (.c, 7), (.l, 8), (.p, 9)] [(.l, 3), (.p, 4), (.p, 5), (.p, 6), (.l, 8), (.p, 9)] [(.l, 8), (.p, 9)] (by kernel_rfl) (by kernel_rfl) (by kernel_rfl) (by kernel_rfl) (by kernel_rfl) hj (fun hj => ?_) (fun hj => ?_) <;> dsimp only [inOrder, nthOp]
   ·refine wl_call rfl (C_opsStepN _ e2 f13.to_RI f13_1.to_RKs f13_2.to_RKs f19.to_Rd f19_1.to_Rd rfl rfl rfl rfl rfl (by simp) (by simp) (by simp) (by simp [LtI]) (by simp) (by simp)) ?_
    rintro v20 w20 ⟨A20, ⟨c20, ⟨B20, ⟨d20, ⟨C20, ⟨e20, ⟨rfl, ⟨f20, ⟨f20_1, ⟨f20_2, b20⟩⟩⟩⟩⟩⟩⟩⟩⟩⟩
    have qf20 := f20.cap
    have qf20_1 := f20_1.cap
    have qf20_2 := f20_2.cap
    have s20 := b20.size
    replace hw := hw.trans (b20.mono hw.size)
    replace hw1 := hw1.trans (b20.mono hw1.size)
    replace f := f.u b20
    replace f13 := f13.u b20
    replace f13_1 := f13_1.u b20
    replace f13_2 := f13_2.u b20
    replace f10_1 := f10_1.u b20
    replace f10 := f10.u b20
    replace f12_1 := f12_1.u b20
    replace f12 := f12.u b20
    replace f19_1 := f19_1.u b20
    replace f19 := f19.u b20
    refine wl_p (fun _ => o_move rfl) ?_
    refine wl_p (fun _ => o_ext20 rfl) ?_
    refine wl_p (fun _ => o_ext21 rfl) ?_
    refine wl_allocg [_, _, _] Tryz.zeroValue31 (by rfl) ?_
    rintro g3 w3 f3 b3 i3 i3_1
    have s3 := b3.size
    replace hw := hw.trans (b3.mono hw.size)
    replace hw1 := hw1.trans (b3.mono hw1.size)
    replace f19 := f19.u b3
    replace f19_1 := f19_1.u b3
    replace f12 := f12.u b3
    replace f12_1 := f12_1.u b3
    replace f10 := f10.u b3
    replace f10_1 := f10_1.u b3
    replace f13_2 := f13_2.u b3
    replace f13_1 := f13_1.u b3
    replace f13 := f13.u b3
    replace f := f.u b3
    replace f20_2 := f20_2.u b3
    replace f20_1 := f20_1.u b3
    replace f20 := f20.u b3
    exact wl_tof hj (Fr.le_of (by kernel_rfl) (by kernel_rfl) (by repeat' constructor)) ⟨g3, _, _, _, _, _, _, rfl, f3, by omega, hw1⟩
   ·refine wl_allocg [_, _, _] Tryz.zeroValue31 (by rfl) ?_
    rintro g3 w3 f3 b3 i3 i3_1
    have s3 := b3.size
    replace hw := hw.trans (b3.mono hw.size)
    replace hw1 := hw1.trans (b3.mono hw1.size)
    replace f := f.u b3
    replace f13 := f13.u b3
    replace f13_1 := f13_1.u b3
    replace f13_2 := f13_2.u b3
    replace f10_1 := f10_1.u b3
    replace f10 := f10.u b3
    replace f12_1 := f12_1.u b3
    replace f12 := f12.u b3
    replace f19_1 := f19_1.u b3
    replace f19 := f19.u b3
    refine wl_call rfl (C_opsStepN _ e2 f13.to_RI f13_1.to_RKs f13_2.to_RKs f19.to_Rd f19_1.to_Rd rfl rfl rfl rfl rfl (by simp) (by simp) (by simp) (by simp [LtI]) (by simp) (by simp)) ?_
    rintro v20 w20 ⟨A20, ⟨c20, ⟨B20, ⟨d20, ⟨C20, ⟨e20, ⟨rfl, ⟨f20, ⟨f20_1, ⟨f20_2, b20⟩⟩⟩⟩⟩⟩⟩⟩⟩⟩
    have qf20 := f20.cap
    have qf20_1 := f20_1.cap
    have qf20_2 := f20_2.cap
    have s20 := b20.size
    replace hw := hw.trans (b20.mono hw.size)
    replace hw1 := hw1.trans (b20.mono hw1.size)
    replace f19 := f19.u b20
    replace f19_1 := f19_1.u b20
    replace f12 := f12.u b20
    replace f12_1 := f12_1.u b20
    replace f10 := f10.u b20
    replace f10_1 := f10_1.u b20
    replace f13_2 := f13_2.u b20
    replace f13_1 := f13_1.u b20
    replace f13 := f13.u b20
    replace f := f.u b20
    replace f3 := f3.u b20
    refine wl_p (fun _ => o_move rfl) ?_
    refine wl_p (fun _ => o_ext20 rfl) ?_
    refine wl_p (fun _ => o_ext21 rfl) ?_
    exact wl_tof hj (Fr.le_of (by kernel_rfl) (by kernel_rfl) (by repeat' constructor)) ⟨g3, _, _, _, _, _, _, rfl, f3, by omega, hw1⟩
  ·refine wl_allocg [_, _, _] Tryz.zeroValue31 (by rfl) ?_
   rintro g3 w3 f3 b3 i3 i3_1
   have s3 := b3.size
   replace hw := hw.trans (b3.mono hw.size)
   replace hw1 := hw1.trans (b3.mono hw1.size)
   replace f12 := f12.u b3
   replace f12_1 := f12_1.u b3
   replace f10 := f10.u b3
   replace f10_1 := f10_1.u b3
   replace f13_2 := f13_2.u b3
   replace f13_1 := f13_1.u b3
   replace f13 := f13.u b3
   replace f := f.u b3
   refine wl_call rfl (C_put _ (by simp) (by simp)) ?_ (hq := .inr fun _ _ h => grown_of_below h.choose_spec.choose_spec.choose_spec.choose_spec.2.2.2.2.2.2.2 _)
   rintro v19 w19 ⟨K19, ⟨c19, ⟨V19, ⟨d19, ⟨rfl, ⟨f19, ⟨i19, ⟨i19_1, ⟨f19_1, ⟨i19_2, ⟨i19_3, b19⟩⟩⟩⟩⟩⟩⟩⟩⟩⟩⟩
   have s19 := b19.size
   replace hw := hw.trans (b19.mono hw.size)
   replace hw1 := hw1.trans (b19.mono hw1.size)
   replace f := f.u b19
   replace f13 := f13.u b19
   replace f13_1 := f13_1.u b19
   replace f13_2 := f13_2.u b19
   replace f10_1 := f10_1.u b19
   replace f10 := f10.u b19
   replace f12_1 := f12_1.u b19
   replace f12 := f12.u b19
   replace f3 := f3.u b19
   refine wl_call rfl (C_opsStepN _ e2 f13.to_RI f13_1.to_RKs f13_2.to_RKs f19.to_Rd f19_1.to_Rd rfl rfl rfl rfl rfl (by simp) (by simp) (by simp) (by simp [LtI]) (by simp) (by simp)) ?_
   rintro v20 w20 ⟨A20, ⟨c20, ⟨B20, ⟨d20, ⟨C20, ⟨e20, ⟨rfl, ⟨f20, ⟨f20_1, ⟨f20_2, b20⟩⟩⟩⟩⟩⟩⟩⟩⟩⟩
   have qf20 := f20.cap
   have qf20_1 := f20_1.cap
   have qf20_2 := f20_2.cap
   have s20 := b20.size
   replace hw := hw.trans (b20.mono hw.size)
   replace hw1 := hw1.trans (b20.mono hw1.size)
   replace f3 := f3.u b20
   replace f12 := f12.u b20
   replace f12_1 := f12_1.u b20
   replace f10 := f10.u b20
   replace f10_1 := f10_1.u b20
   replace f13_2 := f13_2.u b20
   replace f13_1 := f13_1.u b20
   replace f13 := f13.u b20
   replace f := f.u b20
   replace f19_1 := f19_1.u b20
   replace f19 := f19.u b20
   refine wl_p (fun _ => o_move rfl) ?_
   refine wl_p (fun _ => o_ext20 rfl) ?_
   refine wl_p (fun _ => o_ext21 rfl) ?_
   exact wl_tof hj (Fr.le_of (by kernel_rfl) (by kernel_rfl) (by repeat' constructor)) ⟨g3, _, _, _, _, _, _, rfl, f3, by omega, hw1⟩
 ·refine wl_allocg [_, _, _] Tryz.zeroValue31 (by rfl) ?_
  rintro g3 w3 f3 b3 i3 i3_1
  simp only [drew_size] at b3
  simp only [drew_size] at i3
  have s3 := b3.size
  simp only [drew_size] at s3
  replace hw := hw.trans (b3.mono hw.size)
  replace hw1 := hw1.trans (b3.mono hw1.size)
  replace f := f.u b3
  replace f13 := f13.u b3
  replace f13_1 := f13_1.u b3
  replace f13_2 := f13_2.u b3
  replace f10_1 := f10_1.u b3
  replace f10 := f10.u b3
  replace f12_1 := f12_1.u b3
  replace f12 := f12.u b3
  refine wl_call rfl (C_b _) ?_ (hq := .inr fun _ _ h => grown_of_below h.2 _)
  rintro v18 w18 ⟨rfl, b18⟩
  have s18 := b18.size
  replace hw := hw.trans (b18.mono hw.size)
  replace hw1 := hw1.trans (b18.mono hw1.size)
  replace f12 := f12.u b18
  replace f12_1 := f12_1.u b18
  replace f10 := f10.u b18
  replace f10_1 := f10_1.u b18
  replace f13_2 := f13_2.u b18
  replace f13_1 := f13_1.u b18
  replace f13 := f13.u b18
  replace f := f.u b18
  replace f3 := f3.u b18
  refine wl_call rfl (C_put _ (by simp) (by simp)) ?_ (hq := .inr fun _ _ h => grown_of_below h.choose_spec.choose_spec.choose_spec.choose_spec.2.2.2.2.2.2.2 _)
  rintro v19 w19 ⟨K19, ⟨c19, ⟨V19, ⟨d19, ⟨rfl, ⟨f19, ⟨i19, ⟨i19_1, ⟨f19_1, ⟨i19_2, ⟨i19_3, b19⟩⟩⟩⟩⟩⟩⟩⟩⟩⟩⟩
  have s19 := b19.size
  replace hw := hw.trans (b19.mono hw.size)
  replace hw1 := hw1.trans (b19.mono hw1.size)
  replace f3 := f3.u b19
  replace f := f.u b19
  replace f13 := f13.u b19
  replace f13_1 := f13_1.u b19
  replace f13_2 := f13_2.u b19
  replace f10_1 := f10_1.u b19
  replace f10 := f10.u b19
  replace f12_1 := f12_1.u b19
  replace f12 := f12.u b19
  refine wl_call rfl (C_opsStepN _ e2 f13.to_RI f13_1.to_RKs f13_2.to_RKs f19.to_Rd f19_1.to_Rd rfl rfl rfl rfl rfl (by simp) (by simp) (by simp) (by simp [LtI]) (by simp) (by simp)) ?_
  rintro v20 w20 ⟨A20, ⟨c20, ⟨B20, ⟨d20, ⟨C20, ⟨e20, ⟨rfl, ⟨f20, ⟨f20_1, ⟨f20_2, b20⟩⟩⟩⟩⟩⟩⟩⟩⟩⟩
  have qf20 := f20.cap
  have qf20_1 := f20_1.cap
  have qf20_2 := f20_2.cap
  have s20 := b20.size
  replace hw := hw.trans (b20.mono hw.size)
  replace hw1 := hw1.trans (b20.mono hw1.size)
  replace f12 := f12.u b20
  replace f12_1 := f12_1.u b20
  replace f10 := f10.u b20
  replace f10_1 := f10_1.u b20
  replace f13_2 := f13_2.u b20
  replace f13_1 := f13_1.u b20
  replace f13 := f13.u b20
  replace f := f.u b20
  replace f3 := f3.u b20
  replace f19_1 := f19_1.u b20
  replace f19 := f19.u b20
  refine wl_p (fun _ => o_move rfl) ?_
  refine wl_p (fun _ => o_ext20 rfl) ?_
  refine wl_p (fun _ => o_ext21 rfl) ?_
  exact wl_tof hj (Fr.le_of (by kernel_rfl) (by kernel_rfl) (by repeat' constructor)) ⟨g3, _, _, _, _, _, _, rfl, f3, by omega, hw1⟩
end Go.Proofs.YtahkeoegbjopfaaGreat
/-
  Walks of the document's answer for chapter 22: keys and bytes compared, members, valid states.
-/
namespace Go.Proofs.YtahkeoegbjopfaaGreat
set_option maxRecDepth 100000
open Go.RowKit
theorem take_snoc_eq {a b : By} {i : Nat} (h1 : i < a.length) (h2 : i < b.length) (h : a.take i = b.take i) (he : a[i] = b[i]) : a.take (i + 1) = b.take (i + 1) := by
 rw [List.take_succ_eq_append_getElem h1, List.take_succ_eq_append_getElem h2, h, he]
section
variable {N : Nat} {fr : Fr} {w : World} {ty t' : TypeId} {x : Operand} {g i : Nat}
theorem o_ldB1 {l : List UInt8} (hx : fr.ev x = some (.pointer (some ⟨g, i * 1, none⟩))) (hB : Blk w g t' (B8 l)) (hi : i < l.length) : OpV Tryz.prog N fr w (.load 5 x) ty (.int .u8 (l[i].toNat : Int)) w :=
 o_loadbg Tryz.isAgg5 hx hB (by rw [Nat.mul_one]; unfold B8; simp [hi])
end
theorem C_r11Compare {A B : Option Addr} {p q : By} {n c m d : Nat} (w : World) (hA : Rd w A p) (hB : Rd w B q) (hn : n = p.length) (hm : m = q.length) (hl : p.length ≤ 4000000) (hl2 : q.length ≤ 4000000) :
  CallsR Tryz.prog 133 [.slice A n c, .slice B m d] w fun v w' => v = .int .i64 (cmpL p q) ∧ Below w.heap.size w w' := by
 subst hn; subst hm
 refine callsR Tryz.func133 rfl rfl (by kernel_rfl) rfl ?_
 have hw := Below.refl w.heap.size w
 refine rk_seq ?_
 refine rk_region ?_
 refine wl_p (fun _ => o_assign rfl) ?_
 refine wl_nil ?_
 refine rk_seq ?_
 refine rk_seq ?_
 refine rk_region ?_
 refine wl_p (fun _ => o_assign rfl) ?_
 refine wl_nil ?_
 refine rk_block ?_
 refine rk_joinf (fun fb fr w2 => fr = [] ++ fb.drop 1 ∧ cmpL p q = cmpZ p.length q.length ∧ Below w.heap.size w w2) ?_ (fun ks hj => ?_)
 rotate_left
 ·refine rk_loopf (fun fb m fr w2 => ∃ (i : Nat) (v : Int), fr = [(5, .int .i64 v)] ++ fb.drop 1 ∧ v = i ∧ i ≤ p.length ∧ i ≤ q.length ∧ m = p.length - i ∧ p.take i = q.take i ∧ Below w.heap.size w w2) (n := p.length) (Fr.le_of (by kernel_rfl) (by kernel_rfl) (by repeat' constructor)) ⟨0, _, rfl, rfl, by omega, by omega, rfl, rfl, hw⟩ ?_
  clear hw
  rintro m fr w2 ⟨i, v, rfl, rfl, hi, hi2, rfl, hpq, hw⟩
  have shw := hw.size
  first | refine rk_frame (by simp only [List.cons_append, List.nil_append, List.drop_succ_cons, List.drop_zero]; rfl) ?_ | refine wl_frame (by simp only [List.cons_append, List.nil_append, List.drop_succ_cons, List.drop_zero]; rfl) ?_
  by_cases h1 : i < p.length
  ·by_cases h2 : i < q.length
   ·refine rk_seq ?_
    refine rk_seq ?_
    refine rk_region ?_
    refine wl_p (fun _ => o_move rfl) ?_
    refine wl_p (fun _ => o_move rfl) ?_
    refine wl_p (fun _ => o_len (t := 39) Tryz.underlying39 rfl) ?_
    refine wl_p (fun _ => o_lt rfl rfl) ?_
    refine wl_p (fun _ => o_move rfl) ?_
    refine wl_know 10 true rfl (decide_eq_true (by omega)) ?_
    refine wl_p (fun _ => o_move rfl) ?_
    refine wl_p (fun _ => o_move rfl) ?_
    refine wl_p (fun _ => o_len (t := 39) Tryz.underlying39 rfl) ?_
    refine wl_p (fun _ => o_lt rfl rfl) ?_
    refine wl_p (fun _ => o_pick_t rfl rfl) ?_
    refine wl_nil ?_
    refine rk_if rfl (fun h15 => ?_) (fun h15 => h15.elim (by omega))
    refine rk_skip ?_
    refine rk_seq ?_
    refine rk_block ?_
    refine rk_seq ?_
    refine rk_seq ?_
    refine rk_draw (id := 4) (none) [0, 0, 3, 4, 0, 0, 48, 64, 136] [0, 0, 3, 7, 0, 0, 48, 112, 255] 0 0 [(.p, 0), (.p, 1), (.p, 2), (.r, 3), (.p, 4), (.p, 5), (.p, 6), (.r, 7), (.p, 8)] (by kernel_rfl) (by kernel_rfl) (by kernel_rfl) (by kernel_rfl) (by kernel_rfl) ?_
    replace hw := hw.drew
    refine wl_p (fun _ => o_move rfl) ?_
    refine wl_p (fun _ => o_move rfl) ?_
    refine wl_p (fun _ => (o_iaddrA1 (i) Tryz.underlying39 Tryz.sizeOf5 rfl rfl rfl (Reads.some_ hA.to_Reads (by decide) (by omega)) (by omega))) ?_
    refine wl_r (o_loadB Tryz.isAgg5 rfl (hA.u hw) (by omega)) ?_
    refine wl_p (fun _ => o_move rfl) ?_
    refine wl_p (fun _ => o_move rfl) ?_
    refine wl_p (fun _ => (o_iaddrA1 (i) Tryz.underlying39 Tryz.sizeOf5 rfl rfl rfl (Reads.some_ hB.to_Reads (by decide) (by omega)) (by omega))) ?_
    refine wl_r (o_loadB Tryz.isAgg5 rfl (hB.u hw) (by omega)) ?_
    refine wl_p (fun _ => o_lt rfl rfl) ?_
    refine wl_nild ?_
    by_cases h3 : p[i].toNat < q[i].toNat
    ·refine rk_if rfl (fun h26 => ?_) (fun h26 => h26.elim (by omega))
     refine rk_seq ?_
     refine rk_region ?_
     refine wl_p (fun _ => o_assign rfl) ?_
     refine wl_nil ?_
     refine ret1 rfl rfl ?_
     exact ⟨by rw [cmpL_at i p q h1 h2 hpq (fun e => by rw [e] at h3; omega), cmpZ, if_pos (by omega)], hw⟩
    ·refine rk_if rfl (fun h26 => absurd h26 (by omega)) (fun h26 => ?_)
     refine rk_skip ?_
     refine rk_seq ?_
     refine rk_draw (id := 6) (none) [0, 0, 3, 4, 0, 0, 48, 64, 136] [0, 0, 3, 7, 0, 0, 48, 112, 255] 0 0 [(.p, 0), (.p, 1), (.p, 2), (.r, 3), (.p, 4), (.p, 5), (.p, 6), (.r, 7), (.p, 8)] (by kernel_rfl) (by kernel_rfl) (by kernel_rfl) (by kernel_rfl) (by kernel_rfl) ?_
     replace hw := hw.drew
     refine wl_p (fun _ => o_move rfl) ?_
     refine wl_p (fun _ => o_move rfl) ?_
     refine wl_p (fun _ => (o_iaddrA1 (i) Tryz.underlying39 Tryz.sizeOf5 rfl rfl rfl (Reads.some_ hA.to_Reads (by decide) (by omega)) (by omega))) ?_
     refine wl_r (o_loadB Tryz.isAgg5 rfl (hA.u hw) (by omega)) ?_
     refine wl_p (fun _ => o_move rfl) ?_
     refine wl_p (fun _ => o_move rfl) ?_
     refine wl_p (fun _ => (o_iaddrA1 (i) Tryz.underlying39 Tryz.sizeOf5 rfl rfl rfl (Reads.some_ hB.to_Reads (by decide) (by omega)) (by omega))) ?_
     refine wl_r (o_loadB Tryz.isAgg5 rfl (hB.u hw) (by omega)) ?_
     refine wl_p (fun _ => o_gt rfl rfl) ?_
     refine wl_nild ?_
     by_cases h4 : q[i].toNat < p[i].toNat
     ·refine rk_if rfl (fun h35 => ?_) (fun h35 => h35.elim (by omega))
      refine rk_seq ?_
      refine rk_region ?_
      refine wl_p (fun _ => o_assign rfl) ?_
      refine wl_nil ?_
      refine ret1 rfl rfl ?_
      exact ⟨by rw [cmpL_at i p q h1 h2 hpq (fun e => by rw [e] at h4; omega), cmpZ, if_neg (by omega), if_pos (by omega)], hw⟩
     ·refine rk_if rfl (fun h35 => absurd h35 (by omega)) (fun h35 => ?_)
      refine rk_skip ?_
      refine rk_blk ?_
      refine rk_region ?_
      refine wl_p (fun _ => o_move rfl) ?_
      refine wl_p (fun _ => o_add rfl rfl (by omega) (by omega)) ?_
      refine wl_p (fun _ => o_assign rfl) ?_
      refine wl_nil ?_
      exact rk_againf (Fr.le_of (by kernel_rfl) (by kernel_rfl) (by repeat' constructor)) ⟨i + 1, (i : Int) + 1, rfl, by omega, by omega, by omega, rfl, take_snoc_eq h1 h2 hpq (UInt8.toNat_inj.1 (by omega)), hw⟩ (by omega)
   ·refine rk_seq ?_
    refine rk_seq ?_
    refine rk_region ?_
    refine wl_p (fun _ => o_move rfl) ?_
    refine wl_p (fun _ => o_move rfl) ?_
    refine wl_p (fun _ => o_len (t := 39) Tryz.underlying39 rfl) ?_
    refine wl_p (fun _ => o_lt rfl rfl) ?_
    refine wl_p (fun _ => o_move rfl) ?_
    refine wl_know 10 true rfl (decide_eq_true (by omega)) ?_
    refine wl_p (fun _ => o_move rfl) ?_
    refine wl_p (fun _ => o_move rfl) ?_
    refine wl_p (fun _ => o_len (t := 39) Tryz.underlying39 rfl) ?_
    refine wl_p (fun _ => o_lt rfl rfl) ?_
    refine wl_p (fun _ => o_pick_t rfl rfl) ?_
    refine wl_nil ?_
    refine rk_if rfl (fun h15 => absurd h15 (by omega)) (fun h15 => ?_)
    refine rk_exit rfl ?_
    exact rk_tof hj (Fr.le_of (by kernel_rfl) (by kernel_rfl) (by repeat' constructor)) ⟨rfl, cmpL_end p q (by rw [show min p.length q.length = i by omega]; exact hpq), hw⟩
  ·refine rk_seq ?_
   refine rk_seq ?_
   refine rk_region ?_
   refine wl_p (fun _ => o_move rfl) ?_
   refine wl_p (fun _ => o_move rfl) ?_
   refine wl_p (fun _ => o_len (t := 39) Tryz.underlying39 rfl) ?_
   refine wl_p (fun _ => o_lt rfl rfl) ?_
   refine wl_p (fun _ => o_move rfl) ?_
   refine wl_know 10 false rfl (decide_eq_false (by omega)) ?_
   refine wl_off ?_
   refine wl_off ?_
   refine wl_off ?_
   refine wl_off ?_
   refine wl_p (fun _ => o_pick_f rfl rfl) ?_
   refine wl_nil ?_
   refine rk_false rfl ?_
   refine rk_exit rfl ?_
   exact rk_tof hj (Fr.le_of (by kernel_rfl) (by kernel_rfl) (by repeat' constructor)) ⟨rfl, cmpL_end p q (by rw [show min p.length q.length = i by omega]; exact hpq), hw⟩
 clear hw
 rintro fr w2 ⟨rfl, he, hw⟩
 first | refine rk_frame (by simp only [List.cons_append, List.nil_append, List.drop_succ_cons, List.drop_zero]; rfl) ?_ | refine wl_frame (by simp only [List.cons_append, List.nil_append, List.drop_succ_cons, List.drop_zero]; rfl) ?_
 by_cases h1 : p.length < q.length
 ·refine rk_seq ?_
  refine rk_seq ?_
  refine rk_region ?_
  refine wl_p (fun _ => o_move rfl) ?_
  refine wl_p (fun _ => o_len (t := 39) Tryz.underlying39 rfl) ?_
  refine wl_p (fun _ => o_move rfl) ?_
  refine wl_p (fun _ => o_len (t := 39) Tryz.underlying39 rfl) ?_
  refine wl_p (fun _ => o_lt rfl rfl) ?_
  refine wl_nil ?_
  refine rk_if rfl (fun h40 => ?_) (fun h40 => h40.elim (by omega))
  refine rk_seq ?_
  refine rk_region ?_
  refine wl_p (fun _ => o_assign rfl) ?_
  refine wl_nil ?_
  refine ret1 rfl rfl ?_
  exact ⟨by rw [he, cmpZ, if_pos (by omega)], hw⟩
 ·by_cases h2 : q.length < p.length
  ·refine rk_seq ?_
   refine rk_seq ?_
   refine rk_region ?_
   refine wl_p (fun _ => o_move rfl) ?_
   refine wl_p (fun _ => o_len (t := 39) Tryz.underlying39 rfl) ?_
   refine wl_p (fun _ => o_move rfl) ?_
   refine wl_p (fun _ => o_len (t := 39) Tryz.underlying39 rfl) ?_
   refine wl_p (fun _ => o_lt rfl rfl) ?_
   refine wl_nil ?_
   refine rk_if rfl (fun h40 => absurd h40 (by omega)) (fun h40 => ?_)
   refine rk_skip ?_
   refine rk_seq ?_
   refine rk_seq ?_
   refine rk_region ?_
   refine wl_p (fun _ => o_move rfl) ?_
   refine wl_p (fun _ => o_len (t := 39) Tryz.underlying39 rfl) ?_
   refine wl_p (fun _ => o_move rfl) ?_
   refine wl_p (fun _ => o_len (t := 39) Tryz.underlying39 rfl) ?_
   refine wl_p (fun _ => o_gt rfl rfl) ?_
   refine wl_nil ?_
   refine rk_if rfl (fun h45 => ?_) (fun h45 => h45.elim (by omega))
   refine rk_seq ?_
   refine rk_region ?_
   refine wl_p (fun _ => o_assign rfl) ?_
   refine wl_nil ?_
   refine ret1 rfl rfl ?_
   exact ⟨by rw [he, cmpZ, if_neg (by omega), if_pos (by omega)], hw⟩
  ·refine rk_seq ?_
   refine rk_seq ?_
   refine rk_region ?_
   refine wl_p (fun _ => o_move rfl) ?_
   refine wl_p (fun _ => o_len (t := 39) Tryz.underlying39 rfl) ?_
   refine wl_p (fun _ => o_move rfl) ?_
   refine wl_p (fun _ => o_len (t := 39) Tryz.underlying39 rfl) ?_
   refine wl_p (fun _ => o_lt rfl rfl) ?_
   refine wl_nil ?_
   refine rk_if rfl (fun h40 => absurd h40 (by omega)) (fun h40 => ?_)
   refine rk_skip ?_
   refine rk_seq ?_
   refine rk_seq ?_
   refine rk_region ?_
   refine wl_p (fun _ => o_move rfl) ?_
   refine wl_p (fun _ => o_len (t := 39) Tryz.underlying39 rfl) ?_
   refine wl_p (fun _ => o_move rfl) ?_
   refine wl_p (fun _ => o_len (t := 39) Tryz.underlying39 rfl) ?_
   refine wl_p (fun _ => o_gt rfl rfl) ?_
   refine wl_nil ?_
   refine rk_if rfl (fun h45 => absurd h45 (by omega)) (fun h45 => ?_)
   refine rk_skip ?_
   refine rk_seq ?_
   refine rk_region ?_
   refine wl_p (fun _ => o_assign rfl) ?_
   refine wl_nil ?_
   refine ret1 rfl rfl ?_
   exact ⟨by rw [he, cmpZ, if_neg (by omega), if_neg (by omega)], hw⟩
theorem C_r15Compare {u v : Ky} (w : World) : CallsR Tryz.prog 102 [.agg (B8 u.1).toArray, .agg (B8 v.1).toArray] w fun x w' => x = .int .i64 (cmpL u.1 v.1) ∧ Below w.heap.size w w' := by
 have hu := u.2
 have hv := v.2
 refine callsR Tryz.func102 rfl rfl (by kernel_rfl) rfl ?_
 have hw := Below.refl w.heap.size w
 refine rk_seq ?_
 refine rk_region ?_
 refine wl_boxg _ rfl (by rfl) ?_
 rintro g2 w2 f2 b2 i2 i2_1
 have s2 := b2.size
 replace hw := hw.trans (b2.mono hw.size)
 refine wl_boxg _ rfl (by rfl) ?_
 rintro g3 w3 f3 b3 i3 i3_1
 have s3 := b3.size
 replace hw := hw.trans (b3.mono hw.size)
 replace f2 := f2.u b3
 refine wl_p (fun _ => o_assign rfl) ?_
 refine wl_nil ?_
 refine rk_seq ?_
 refine rk_seq ?_
 refine rk_region ?_
 refine wl_p (fun _ => o_assign rfl) ?_
 refine wl_nil ?_
 refine rk_block ?_
 refine rk_joinf (fun fb fr w2 => fr = [] ++ fb.drop 1 ∧ cmpL u.1 v.1 = 0 ∧ Below w.heap.size w w2) ?_ (fun ks hj => ?_)
 rotate_left
 ·refine rk_loopf (fun fb m fr w2 => ∃ (i : Nat) (z : Int), fr = [(5, .int .i64 z)] ++ fb.drop 1 ∧ z = i ∧ i ≤ 32 ∧ m = 32 - i ∧ u.1.take i = v.1.take i ∧ Blk w2 g2 44 (B8 u.1) ∧ Blk w2 g3 44 (B8 v.1) ∧ Below w.heap.size w w2) (n := 32) (Fr.le_of (by kernel_rfl) (by kernel_rfl) (by repeat' constructor)) ⟨0, _, rfl, rfl, by omega, rfl, rfl, f2, f3, hw⟩ ?_
  clear hw f2 f3
  rintro m fr w2 ⟨i, z, rfl, rfl, hi, rfl, hpq, f2, f3, hw⟩
  have shw := hw.size
  first | refine rk_frame (by simp only [List.cons_append, List.nil_append, List.drop_succ_cons, List.drop_zero]; rfl) ?_ | refine wl_frame (by simp only [List.cons_append, List.nil_append, List.drop_succ_cons, List.drop_zero]; rfl) ?_
  by_cases h1 : i < 32
  ·have h5 : i < u.1.length := by omega
   have h6 : i < v.1.length := by omega
   refine rk_seq ?_
   refine rk_seq ?_
   refine rk_region ?_
   refine wl_p (fun _ => o_move rfl) ?_
   refine wl_p (fun _ => o_lt rfl rfl) ?_
   refine wl_nil ?_
   refine rk_if rfl (fun h7 => ?_) (fun h7 => h7.elim (by omega))
   refine rk_skip ?_
   refine rk_seq ?_
   refine rk_block ?_
   refine rk_seq ?_
   refine rk_seq ?_
   refine rk_draw (id := 4) (none) [0, 1, 2, 0, 8, 16, 36] [0, 1, 3, 0, 8, 24, 63] 0 0 [(.p, 0), (.p, 1), (.r, 2), (.p, 3), (.p, 4), (.r, 5), (.p, 6)] (by kernel_rfl) (by kernel_rfl) (by kernel_rfl) (by kernel_rfl) (by kernel_rfl) ?_
   replace hw := hw.drew
   replace f3 := f3.d
   replace f2 := f2.d
   refine wl_p (fun _ => o_move rfl) ?_
   refine wl_p (fun _ => (o_iaddrPn (i) Tryz.underlying44 Tryz.sizeOf5 rfl rfl rfl (by omega))) ?_
   refine wl_r (o_ldB1 rfl f2 (by omega)) ?_
   refine wl_p (fun _ => o_move rfl) ?_
   refine wl_p (fun _ => (o_iaddrPn (i) Tryz.underlying44 Tryz.sizeOf5 rfl rfl rfl (by omega))) ?_
   refine wl_r (o_ldB1 rfl f3 (by omega)) ?_
   refine wl_p (fun _ => o_lt rfl rfl) ?_
   refine wl_nild ?_
   by_cases h3 : u.1[i].toNat < v.1[i].toNat
   ·refine rk_if rfl (fun h16 => ?_) (fun h16 => h16.elim (by omega))
    refine rk_seq ?_
    refine rk_region ?_
    refine wl_p (fun _ => o_assign rfl) ?_
    refine wl_nil ?_
    refine ret1 rfl rfl ?_
    exact ⟨by rw [cmpL_at i u.1 v.1 h5 h6 hpq (fun e => by rw [e] at h3; omega), cmpZ, if_pos (by omega)], hw⟩
   ·refine rk_if rfl (fun h16 => absurd h16 (by omega)) (fun h16 => ?_)
    refine rk_skip ?_
    refine rk_seq ?_
    refine rk_draw (id := 6) (none) [0, 1, 2, 0, 8, 16, 36] [0, 1, 3, 0, 8, 24, 63] 0 0 [(.p, 0), (.p, 1), (.r, 2), (.p, 3), (.p, 4), (.r, 5), (.p, 6)] (by kernel_rfl) (by kernel_rfl) (by kernel_rfl) (by kernel_rfl) (by kernel_rfl) ?_
    replace hw := hw.drew
    replace f2 := f2.d
    replace f3 := f3.d
    refine wl_p (fun _ => o_move rfl) ?_
    refine wl_p (fun _ => (o_iaddrPn (i) Tryz.underlying44 Tryz.sizeOf5 rfl rfl rfl (by omega))) ?_
    refine wl_r (o_ldB1 rfl f2 (by omega)) ?_
    refine wl_p (fun _ => o_move rfl) ?_
    refine wl_p (fun _ => (o_iaddrPn (i) Tryz.underlying44 Tryz.sizeOf5 rfl rfl rfl (by omega))) ?_
    refine wl_r (o_ldB1 rfl f3 (by omega)) ?_
    refine wl_p (fun _ => o_gt rfl rfl) ?_
    refine wl_nild ?_
    by_cases h4 : v.1[i].toNat < u.1[i].toNat
    ·refine rk_if rfl (fun h23 => ?_) (fun h23 => h23.elim (by omega))
     refine rk_seq ?_
     refine rk_region ?_
     refine wl_p (fun _ => o_assign rfl) ?_
     refine wl_nil ?_
     refine ret1 rfl rfl ?_
     exact ⟨by rw [cmpL_at i u.1 v.1 h5 h6 hpq (fun e => by rw [e] at h4; omega), cmpZ, if_neg (by omega), if_pos (by omega)], hw⟩
    ·refine rk_if rfl (fun h23 => absurd h23 (by omega)) (fun h23 => ?_)
     refine rk_skip ?_
     refine rk_blk ?_
     refine rk_region ?_
     refine wl_p (fun _ => o_move rfl) ?_
     refine wl_p (fun _ => o_add rfl rfl (by omega) (by omega)) ?_
     refine wl_p (fun _ => o_assign rfl) ?_
     refine wl_nil ?_
     exact rk_againf (Fr.le_of (by kernel_rfl) (by kernel_rfl) (by repeat' constructor)) ⟨i + 1, (i : Int) + 1, rfl, by omega, by omega, rfl, take_snoc_eq h5 h6 hpq (UInt8.toNat_inj.1 (by omega)), f2, f3, hw⟩ (by omega)
  ·refine rk_seq ?_
   refine rk_seq ?_
   refine rk_region ?_
   refine wl_p (fun _ => o_move rfl) ?_
   refine wl_p (fun _ => o_lt rfl rfl) ?_
   refine wl_nil ?_
   refine rk_if rfl (fun h7 => absurd h7 (by omega)) (fun h7 => ?_)
   refine rk_exit rfl ?_
   obtain rfl : i = 32 := by omega
   exact rk_tof hj (Fr.le_of (by kernel_rfl) (by kernel_rfl) (by repeat' constructor)) ⟨rfl, by rw [cmpL_end u.1 v.1 (by rw [hu, hv]; exact hpq), hu, hv]; rfl, hw⟩
 clear hw f2 f3
 rintro fr w2 ⟨rfl, he, hw⟩
 first | refine rk_frame (by simp only [List.cons_append, List.nil_append, List.drop_succ_cons, List.drop_zero]; rfl) ?_ | refine wl_frame (by simp only [List.cons_append, List.nil_append, List.drop_succ_cons, List.drop_zero]; rfl) ?_
 refine rk_seq ?_
 refine rk_region ?_
 refine wl_p (fun _ => o_assign rfl) ?_
 refine wl_nil ?_
 refine ret1 rfl rfl ?_
 exact ⟨by rw [he], hw⟩
theorem C_r22Compare {u v : Ky} (w : World) : CallsR Tryz.prog 134 [.agg (B8 u.1).toArray, .agg (B8 v.1).toArray] w fun x w' => x = .int .i64 (cmpL u.1 v.1) ∧ Below w.heap.size w w' := by
 refine callsR Tryz.func134 rfl rfl (by kernel_rfl) rfl ?_
 have hw := Below.refl w.heap.size w
 refine rk_seq ?_
 refine rk_region ?_
 refine wl_boxg _ rfl (by rfl) ?_
 rintro g2 w2 f2 b2 i2 i2_1
 have s2 := b2.size
 replace hw := hw.trans (b2.mono hw.size)
 refine wl_boxg _ rfl (by rfl) ?_
 rintro g3 w3 f3 b3 i3 i3_1
 have s3 := b3.size
 replace hw := hw.trans (b3.mono hw.size)
 replace f2 := f2.u b3
 refine wl_p (fun _ => o_assign rfl) ?_
 refine wl_nil ?_
 refine rk_seq ?_
 refine rk_region ?_
 refine wl_r (o_ldKyB rfl f2) ?_
 refine wl_r (o_ldKyB rfl f3) ?_
 refine wl_call rfl (C_r15Compare _) ?_
 rintro v7 w7 ⟨rfl, b7⟩
 have s7 := b7.size
 replace hw := hw.trans (b7.mono hw.size)
 replace f2 := f2.u b7
 replace f3 := f3.u b7
 refine wl_p (fun _ => o_assign rfl) ?_
 refine wl_nil ?_
 refine ret1 rfl rfl ?_
 exact ⟨rfl, hw⟩
theorem C_r22Member {A : Option Addr} {L : List Ky} {u : Ky} {n c : Nat} (w : World) (hA : RKs w A L) (hn : n = L.length) (hl : L.length ≤ 4000000) :
  CallsR Tryz.prog 132 [.slice A n c, .agg (B8 u.1).toArray] w fun v w' => v = .bool (decide (u ∈ L)) ∧ Below w.heap.size w w' := by
 subst hn
 refine callsR Tryz.func132 rfl rfl (by kernel_rfl) rfl ?_
 have hw := Below.refl w.heap.size w
 refine rk_seq ?_
 refine rk_region ?_
 refine wl_boxg _ rfl (by rfl) ?_
 rintro g3 w3 f3 b3 i3 i3_1
 have s3 := b3.size
 replace hw := hw.trans (b3.mono hw.size)
 refine wl_p (fun _ => o_assign rfl) ?_
 refine wl_nil ?_
 refine rk_seq ?_
 refine rk_seq ?_
 refine rk_region ?_
 refine wl_p (fun _ => o_assign rfl) ?_
 refine wl_nil ?_
 refine rk_block ?_
 refine rk_joinf (fun fb fr w2 => fr = [] ++ fb.drop 1 ∧ ¬ u ∈ L ∧ Below w.heap.size w w2) ?_ (fun ks hj => ?_)
 rotate_left
 ·refine rk_loopf (fun fb m fr w2 => ∃ (i : Nat) (z : Int), fr = [(5, .int .i64 z)] ++ fb.drop 1 ∧ z = i ∧ i ≤ L.length ∧ m = L.length - i ∧ ¬ u ∈ L.take i ∧ Blk w2 g3 42 (B8 u.1) ∧ Below w.heap.size w w2) (n := L.length) (Fr.le_of (by kernel_rfl) (by kernel_rfl) (by repeat' constructor)) ⟨0, _, rfl, rfl, by omega, rfl, by simp, f3, hw⟩ ?_
  clear hw f3
  rintro m fr w2 ⟨i, z, rfl, rfl, hi, rfl, hno, f3, hw⟩
  have shw := hw.size
  first | refine rk_frame (by simp only [List.cons_append, List.nil_append, List.drop_succ_cons, List.drop_zero]; rfl) ?_ | refine wl_frame (by simp only [List.cons_append, List.nil_append, List.drop_succ_cons, List.drop_zero]; rfl) ?_
  by_cases h1 : i < L.length
  ·by_cases h2 : L[i] = u
   ·refine rk_seq ?_
    refine rk_seq ?_
    refine rk_region ?_
    refine wl_p (fun _ => o_move rfl) ?_
    refine wl_p (fun _ => o_move rfl) ?_
    refine wl_p (fun _ => o_len (t := 29) Tryz.underlying29 rfl) ?_
    refine wl_p (fun _ => o_lt rfl rfl) ?_
    refine wl_nil ?_
    refine rk_if rfl (fun h9 => ?_) (fun h9 => h9.elim (by omega))
    refine rk_skip ?_
    refine rk_seq ?_
    refine rk_block ?_
    refine rk_seq ?_
    refine rk_draw (id := 4) (none) [0, 0, 3, 4, 0, 24] [0, 0, 3, 7, 0, 31] 0 0 [(.p, 0), (.p, 1), (.p, 2), (.r, 3), (.r, 4), (.p, 5)] (by kernel_rfl) (by kernel_rfl) (by kernel_rfl) (by kernel_rfl) (by kernel_rfl) ?_
    replace hw := hw.drew
    replace f3 := f3.d
    refine wl_p (fun _ => o_move rfl) ?_
    refine wl_p (fun _ => o_move rfl) ?_
    refine wl_p (fun _ => (o_iaddrA (i) Tryz.underlying29 Tryz.sizeOf42 rfl rfl rfl (hA.some_ (by omega)) (by omega))) ?_
    refine wl_r (o_ldKs rfl hA hw (by omega)) ?_
    refine wl_r (o_ldKyB rfl f3) ?_
    refine wl_p (fun _ => (o_eqKy rfl rfl)) ?_
    refine wl_nild ?_
    refine rk_if rfl (fun h17 => ?_) (fun h17 => h17.elim (by omega))
    refine rk_seq ?_
    refine rk_region ?_
    refine wl_p (fun _ => o_assign rfl) ?_
    refine wl_nil ?_
    refine ret1 rfl rfl ?_
    exact ⟨by rw [decide_eq_true (by rw [← h2]; exact List.getElem_mem h1)], hw⟩
   ·refine rk_seq ?_
    refine rk_seq ?_
    refine rk_region ?_
    refine wl_p (fun _ => o_move rfl) ?_
    refine wl_p (fun _ => o_move rfl) ?_
    refine wl_p (fun _ => o_len (t := 29) Tryz.underlying29 rfl) ?_
    refine wl_p (fun _ => o_lt rfl rfl) ?_
    refine wl_nil ?_
    refine rk_if rfl (fun h9 => ?_) (fun h9 => h9.elim (by omega))
    refine rk_skip ?_
    refine rk_seq ?_
    refine rk_block ?_
    refine rk_seq ?_
    refine rk_draw (id := 4) (none) [0, 0, 3, 4, 0, 24] [0, 0, 3, 7, 0, 31] 0 0 [(.p, 0), (.p, 1), (.p, 2), (.r, 3), (.r, 4), (.p, 5)] (by kernel_rfl) (by kernel_rfl) (by kernel_rfl) (by kernel_rfl) (by kernel_rfl) ?_
    replace hw := hw.drew
    replace f3 := f3.d
    refine wl_p (fun _ => o_move rfl) ?_
    refine wl_p (fun _ => o_move rfl) ?_
    refine wl_p (fun _ => (o_iaddrA (i) Tryz.underlying29 Tryz.sizeOf42 rfl rfl rfl (hA.some_ (by omega)) (by omega))) ?_
    refine wl_r (o_ldKs rfl hA hw (by omega)) ?_
    refine wl_r (o_ldKyB rfl f3) ?_
    refine wl_p (fun _ => (o_eqKy rfl rfl)) ?_
    refine wl_nild ?_
    refine rk_if rfl (fun h17 => absurd h17 (by omega)) (fun h17 => ?_)
    refine rk_skip ?_
    refine rk_blk ?_
    refine rk_region ?_
    refine wl_p (fun _ => o_move rfl) ?_
    refine wl_p (fun _ => o_add rfl rfl (by omega) (by omega)) ?_
    refine wl_p (fun _ => o_assign rfl) ?_
    refine wl_nil ?_
    exact rk_againf (Fr.le_of (by kernel_rfl) (by kernel_rfl) (by repeat' constructor)) ⟨i + 1, (i : Int) + 1, rfl, by omega, by omega, rfl, by rw [List.take_succ_eq_append_getElem h1, List.mem_append, List.mem_singleton]; exact fun h => h.elim hno (fun e => h2 e.symm), f3, hw⟩ (by omega)
  ·refine rk_seq ?_
   refine rk_seq ?_
   refine rk_region ?_
   refine wl_p (fun _ => o_move rfl) ?_
   refine wl_p (fun _ => o_move rfl) ?_
   refine wl_p (fun _ => o_len (t := 29) Tryz.underlying29 rfl) ?_
   refine wl_p (fun _ => o_lt rfl rfl) ?_
   refine wl_nil ?_
   refine rk_if rfl (fun h9 => absurd h9 (by omega)) (fun h9 => ?_)
   refine rk_exit rfl ?_
   obtain rfl : i = L.length := by omega
   rw [List.take_length] at hno
   exact rk_tof hj (Fr.le_of (by kernel_rfl) (by kernel_rfl) (by repeat' constructor)) ⟨rfl, hno, hw⟩
 clear hw f3
 rintro fr w2 ⟨rfl, hno, hw⟩
 first | refine rk_frame (by simp only [List.cons_append, List.nil_append, List.drop_succ_cons, List.drop_zero]; rfl) ?_ | refine wl_frame (by simp only [List.cons_append, List.nil_append, List.drop_succ_cons, List.drop_zero]; rfl) ?_
 refine rk_seq ?_
 refine rk_region ?_
 refine wl_p (fun _ => o_assign rfl) ?_
 refine wl_nil ?_
 refine ret1 rfl rfl ?_
 exact ⟨by rw [decide_eq_false hno], hw⟩
theorem C_r22rising {A : Option Addr} {L : List Ky} {n c : Nat} (w : World) (hA : RKs w A L) (hn : n = L.length) (hl : L.length ≤ 4000000) :
  CallsR Tryz.prog 168 [.slice A n c] w fun v w' => v = .bool (decide (IncK L)) ∧ Below w.heap.size w w' := by
 subst hn
 refine callsR Tryz.func168 rfl rfl (by kernel_rfl) rfl ?_
 have hw := Below.refl w.heap.size w
 refine rk_seq ?_
 refine rk_region ?_
 refine wl_p (fun _ => o_assign rfl) ?_
 refine wl_nil ?_
 refine rk_seq ?_
 refine rk_seq ?_
 refine rk_region ?_
 refine wl_p (fun _ => o_assign rfl) ?_
 refine wl_nil ?_
 refine rk_block ?_
 refine rk_joinf (fun fb fr w2 => fr = [] ++ fb.drop 1 ∧ IncK L ∧ Below w.heap.size w w2) ?_ (fun ks hj => ?_)
 rotate_left
 ·refine rk_loopf (fun fb m fr w2 => ∃ (i : Nat) (v : Int), fr = [(3, .int .i64 v)] ++ fb.drop 1 ∧ v = (i : Int) + 1 ∧ i ≤ L.length ∧ m = L.length - i ∧ (∀ j (h : j < L.length), j ≤ i → 0 < j → cmpL L[j - 1].1 L[j].1 < 0) ∧ Below w.heap.size w w2) (n := L.length) (Fr.le_of (by kernel_rfl) (by kernel_rfl) (by repeat' constructor)) ⟨0, _, rfl, rfl, by omega, rfl, fun j h h1 h2 => absurd h2 (by omega), hw⟩ ?_
  clear hw
  rintro m fr w2 ⟨i, v, rfl, rfl, hi, rfl, hok, hw⟩
  have shw := hw.size
  first | refine rk_frame (by simp only [List.cons_append, List.nil_append, List.drop_succ_cons, List.drop_zero]; rfl) ?_ | refine wl_frame (by simp only [List.cons_append, List.nil_append, List.drop_succ_cons, List.drop_zero]; rfl) ?_
  by_cases hil : i + 1 < L.length
  ·refine rk_seq ?_
   refine rk_seq ?_
   refine rk_region ?_
   refine wl_p (fun _ => o_move rfl) ?_
   refine wl_p (fun _ => o_move rfl) ?_
   refine wl_p (fun _ => o_len (t := 29) Tryz.underlying29 rfl) ?_
   refine wl_p (fun _ => o_lt rfl rfl) ?_
   refine wl_nil ?_
   refine rk_if rfl (fun h7 => ?_) (fun h7 => h7.elim (by omega))
   refine rk_skip ?_
   refine rk_seq ?_
   refine rk_block ?_
   refine rk_seq ?_
   refine rk_draw (id := 4) (none) [0, 0, 2, 5, 8, 0, 0, 96, 128, 272, 512] [0, 0, 2, 7, 15, 0, 0, 96, 224, 511, 1023] 512 0 [(.p, 0), (.p, 1), (.p, 2), (.p, 3), (.r, 4), (.p, 5), (.p, 6), (.p, 7), (.r, 8), (.l, 9), (.p, 10)] (by kernel_rfl) (by kernel_rfl) (by kernel_rfl) (by kernel_rfl) (by kernel_rfl) ?_
   replace hw := hw.drew
   refine wl_p (fun _ => o_move rfl) ?_
   refine wl_p (fun _ => o_move rfl) ?_
   refine wl_p (fun _ => o_sub rfl rfl (by omega) (by omega)) ?_
   refine wl_p (fun _ => (o_iaddrA (i + 1 - 1) Tryz.underlying29 Tryz.sizeOf42 rfl rfl (by omega) (hA.some_ (by omega)) (by omega))) ?_
   refine wl_r (o_ldKs rfl hA hw (by omega)) ?_
   refine wl_p (fun _ => o_move rfl) ?_
   refine wl_p (fun _ => o_move rfl) ?_
   refine wl_p (fun _ => (o_iaddrA (i + 1) Tryz.underlying29 Tryz.sizeOf42 rfl rfl (by omega) (hA.some_ (by omega)) (by omega))) ?_
   refine wl_r (o_ldKs rfl hA hw (by omega)) ?_
   refine wl_call rfl (C_r22Compare _) ?_
   rintro v19 w19 ⟨rfl, b19⟩
   simp only [drew_size] at b19
   have s19 := b19.size
   simp only [drew_size] at s19
   replace hw := hw.trans (b19.mono hw.size)
   refine wl_p (fun _ => o_ge rfl rfl) ?_
   refine wl_nild ?_
   refine rk_if rfl (fun h20 => ?_) (fun h20 => ?_)
   ·refine rk_seq ?_
    refine rk_region ?_
    refine wl_p (fun _ => o_assign rfl) ?_
    refine wl_nil ?_
    refine ret1 rfl rfl ?_
    exact ⟨by rw [decide_eq_false (fun h => absurd (h (i + 1) hil (by omega)) (by omega))], hw⟩
   ·refine rk_skip ?_
    refine rk_blk ?_
    refine rk_region ?_
    refine wl_p (fun _ => o_move rfl) ?_
    refine wl_p (fun _ => o_add rfl rfl (by omega) (by omega)) ?_
    refine wl_p (fun _ => o_assign rfl) ?_
    refine wl_nil ?_
    exact rk_againf (Fr.le_of (by kernel_rfl) (by kernel_rfl) (by repeat' constructor)) ⟨i + 1, (i : Int) + 1 + 1, rfl, by omega, by omega, rfl, fun j h h1 h3 => by
     by_cases e : j = i + 1
     ·subst e; omega
     ·exact hok j h (by omega) h3, hw⟩ (by omega)
  ·refine rk_seq ?_
   refine rk_seq ?_
   refine rk_region ?_
   refine wl_p (fun _ => o_move rfl) ?_
   refine wl_p (fun _ => o_move rfl) ?_
   refine wl_p (fun _ => o_len (t := 29) Tryz.underlying29 rfl) ?_
   refine wl_p (fun _ => o_lt rfl rfl) ?_
   refine wl_nil ?_
   refine rk_if rfl (fun h7 => absurd h7 (by omega)) (fun h7 => ?_)
   refine rk_exit rfl ?_
   exact rk_tof hj (Fr.le_of (by kernel_rfl) (by kernel_rfl) (by repeat' constructor)) ⟨rfl, fun j h h1 => hok j h (by omega) h1, hw⟩
 clear hw
 rintro fr w2 ⟨rfl, hI, hw⟩
 first | refine rk_frame (by simp only [List.cons_append, List.nil_append, List.drop_succ_cons, List.drop_zero]; rfl) ?_ | refine wl_frame (by simp only [List.cons_append, List.nil_append, List.drop_succ_cons, List.drop_zero]; rfl) ?_
 refine rk_seq ?_
 refine rk_region ?_
 refine wl_p (fun _ => o_assign rfl) ?_
 refine wl_nil ?_
 refine ret1 rfl rfl ?_
 exact ⟨by rw [decide_eq_true hI], hw⟩
end Go.Proofs.YtahkeoegbjopfaaGreat
/-
  Plain laws of chapter 1: what is written is read back, and nothing else is read so.
-/
namespace Go.Proofs.YtahkeoegbjopfaaGreat
set_option maxRecDepth 100000

theorem lead_first (n : Nat) (h : n < 18446744073709551616) : lead (first (room n) n) = room n ∧ (first (room n) n).toNat % 2 ^ (8 - room n) = n / 256 ^ (room n - 1) := by
 have hk := room_pos n
 have hlt := room_lt n h
 have hf := first_nat n h
 unfold lead
 generalize n / 256 ^ (room n - 1) = q at *
 generalize (first (room n) n).toNat = f at *
 generalize room n = k at *
 obtain e | e | e | e | e | e | e | e | e : k = 1 ∨ k = 2 ∨ k = 3 ∨ k = 4 ∨ k = 5 ∨ k = 6 ∨ k = 7 ∨ k = 8 ∨ k = 9 := by omega
 all_goals subst e; simp only [Nat.reduceSub, Nat.reducePow] at *; refine ⟨?_, by omega⟩; (repeat' split) <;> omega

theorem ofNat_byte (q : Nat) : (UInt8.ofNat q).toNat = q % 256 := by rw [UInt8.toNat_ofNat']
theorem mod_pow_succ (n j : Nat) : n % 256 ^ (j + 1) = n % 256 ^ j + 256 ^ j * (n / 256 ^ j % 256) := by rw [Nat.pow_succ, Nat.mod_mul]
theorem beVal_beB : ∀ (j a n : Nat), beVal a (beB j n) = a * 256 ^ j + n % 256 ^ j
 | 0, a, n => by simp [beVal, beB, Nat.mod_one]
 | j + 1, a, n => by
  have e : beVal a (beB (j + 1) n) = beVal (a * 256 + (UInt8.ofNat (n / 256 ^ j)).toNat) (beB j n) := rfl
  rw [e, beVal_beB j, ofNat_byte, mod_pow_succ, Nat.pow_succ, Nat.add_mul, Nat.mul_assoc a 256, Nat.mul_comm 256 (256 ^ j), Nat.mul_comm (n / 256 ^ j % 256), Nat.add_assoc, Nat.add_comm (256 ^ j * (n / 256 ^ j % 256))]

theorem rNumber_enc (n : Nat) (h : n < 18446744073709551616) (t : List UInt8) : rNumber (enc n ++ t, 0) = (n, (t, 0)) := by
 have hk := room_pos n
 obtain ⟨h1, h2⟩ := lead_first n h
 have hv : beVal ((first (room n) n).toNat % 2 ^ (8 - lead (first (room n) n))) ((beB (room n - 1) n ++ t).take (lead (first (room n) n) - 1)) = n := by
  rw [h1, h2, List.take_append_of_le_length (by rw [beB_length]; exact Nat.le_refl _), List.take_of_length_le (by rw [beB_length]; exact Nat.le_refl _), beVal_beB]
  exact Nat.div_add_mod' n _
 show rNumber (first (room n) n :: (beB (room n - 1) n ++ t), 0) = _
 rw [rNumber_ok (by rw [h1, List.length_append, beB_length]; omega) (by rw [hv, h1]), hv, h1]
 rw [List.drop_append_of_le_length (by rw [beB_length]; exact Nat.le_refl _), List.drop_of_length_le (by rw [beB_length]; exact Nat.le_refl _)]
 rfl

theorem rBlock_enc (p t : List UInt8) (h : p.length < 18446744073709551616) : rBlock (enc p.length ++ p ++ t, 0) = (p, (t, 0)) := by
 unfold rBlock
 rw [List.append_assoc, rNumber_enc _ h]
 simp

theorem beVal_split : ∀ (l : List UInt8) (a : Nat), beVal a l / 256 ^ l.length = a
 | [], a => by simp [beVal]
 | c :: l, a => by
  have e : beVal a (c :: l) = beVal (a * 256 + c.toNat) l := rfl
  have h := beVal_split l (a * 256 + c.toNat)
  have hc := c.toNat_lt
  rw [e, List.length_cons, Nat.pow_succ, ← Nat.div_div_eq_div_mul, h]
  omega
theorem beB_beVal : ∀ (l : List UInt8) (a : Nat), beB l.length (beVal a l) = l
 | [], _ => rfl
 | c :: l, a => by
  have e : beVal a (c :: l) = beVal (a * 256 + c.toNat) l := rfl
  have hc := c.toNat_lt
  rw [e, List.length_cons, beB, beVal_split, beB_beVal l]
  congr 1
  apply UInt8.toNat_inj.1
  rw [UInt8.toNat_ofNat']
  omega
theorem lead_back (c : UInt8) : 256 - 2 ^ (9 - lead c) + c.toNat % 2 ^ (8 - lead c) = c.toNat := by
 have hc := c.toNat_lt
 unfold lead
 generalize c.toNat = x at *
 repeat' split
 all_goals simp only [Nat.reduceSub, Nat.reducePow]; omega

theorem rNumber_back {b r : List UInt8} {u : Nat} (h : rNumber (b, 0) = (u, (r, 0))) : b = enc u ++ r ∧ u < 18446744073709551616 := by
 cases b with
 | nil => rw [rNumber_nil] at h; simp at h
 | cons c t =>
  by_cases h1 : t.length + 1 < lead c
  ·rw [rNumber_more h1] at h; simp at h
  ·by_cases h2 : room (beVal (c.toNat % 2 ^ (8 - lead c)) (t.take (lead c - 1))) = lead c
   ·rw [rNumber_ok h1 h2] at h
    simp only [Prod.mk.injEq, and_true] at h
    obtain ⟨hu, hr⟩ := h
    have hk := lead_bd c
    have hlen : (t.take (lead c - 1)).length = lead c - 1 := by rw [List.length_take]; omega
    have hu64 := beVal_u64 c (t.take (lead c - 1)) (by omega)
    rw [hu] at h2 hu64
    refine ⟨?_, hu64⟩
    have hdiv : u / 256 ^ (lead c - 1) = c.toNat % 2 ^ (8 - lead c) := by
     have := beVal_split (t.take (lead c - 1)) (c.toNat % 2 ^ (8 - lead c))
     rw [hlen, hu] at this
     exact this
    have hrest : beB (lead c - 1) u = t.take (lead c - 1) := by
     have := beB_beVal (t.take (lead c - 1)) (c.toNat % 2 ^ (8 - lead c))
     rw [hlen, hu] at this
     exact this
    have hf : first (lead c) u = c := by
     apply UInt8.toNat_inj.1
     unfold first
     rw [UInt8.toNat_ofNat', hdiv, lead_back]
     have := c.toNat_lt
     omega
    unfold enc
    rw [h2, hf, hrest, ← hr, List.cons_append, List.take_append_drop]
   ·rw [rNumber_bad h1 h2] at h; simp at h

theorem rBlock_back {b q r : List UInt8} (h : rBlock (b, 0) = (q, (r, 0))) : b = enc q.length ++ q ++ r := by
 unfold rBlock at h
 generalize hn : rNumber (b, 0) = x at h
 obtain ⟨n, s, e⟩ := x
 simp only at h
 by_cases he : e = 0
 ·subst he
  rw [if_neg (by simp)] at h
  obtain ⟨hb, _⟩ := rNumber_back hn
  by_cases hl : s.length < n
  ·rw [if_pos hl] at h; simp at h
  ·rw [if_neg hl] at h
   simp only [Prod.mk.injEq, and_true] at h
   obtain ⟨hq, hr⟩ := h
   have hqn : q.length = n := by rw [← hq, List.length_take]; omega
   rw [hb, hqn, ← hq, ← hr, List.append_assoc, List.take_append_drop]
 ·rw [if_pos he] at h
  simp only [Prod.mk.injEq] at h
  exact absurd h.2.2 he
end Go.Proofs.YtahkeoegbjopfaaGreat
/-
  Plain laws of ops: what is written is read back, and nothing else is read so; what an op does to a valid state.
-/
namespace Go.Proofs.YtahkeoegbjopfaaGreat
set_option maxRecDepth 100000
theorem rWord_cons (c : UInt8) (t : List UInt8) : rWord 1 (c :: t, 0) = (c.toNat, (t, 0)) := by
 unfold rWord rTake
 have hc : clampN 1 = 1 := by decide
 rw [hc]
 simp [leVal]
theorem rWord_nil : rWord 1 ([], 0) = (0, ([], 5)) := by decide
theorem rDigest_enc (u : Ky) (t : List UInt8) : rDigest (u.1 ++ t, 0) = (u.1, (t, 0)) := by
 have h := u.2
 have h2 : ¬ (u.1 ++ t).length < 32 := by rw [List.length_append]; omega
 have e1 : rTake 32 (u.1 ++ t, 0) = (u.1, (t, 0)) := by
  unfold rTake
  rw [if_neg (by simp), if_neg h2, List.take_left' h, List.drop_left' h]
 unfold rDigest
 rw [e1]
 simp
theorem blk_enc (p t : List UInt8) (h : p.length < 18446744073709551616) : rBlock (blkB p ++ t, 0) = (p, (t, 0)) := rBlock_enc p t h
theorem rBlock_err {l : List UInt8} {e : Nat} (h : e ≠ 0) : (rBlock (l, e)).2.2 ≠ 0 := by
 unfold rBlock
 rw [rNumber_err h]
 simp [h]
theorem goodS_1 {n m : Nat} {u : Ky} (h : goodS 1 n m u = true) : 1 ≤ n ∧ n ≤ 16 ∧ m ≤ 32 ∧ u = z32 := by
 simp only [goodS, if_pos, Bool.and_eq_true, decide_eq_true_eq] at h
 exact ⟨h.1.1.1, h.1.1.2, h.1.2, h.2⟩
theorem goodS_2 {n m : Nat} {u : Ky} (h : goodS 2 n m u = true) : 1 ≤ n ∧ n ≤ 16 ∧ m = 0 ∧ u = z32 := by
 have e : goodS 2 n m u = (decide (1 ≤ n ∧ n ≤ 16) && decide (m = 0) && decide (u = z32)) := rfl
 rw [e] at h
 simp only [Bool.and_eq_true, decide_eq_true_eq] at h
 exact ⟨h.1.1.1, h.1.1.2, h.1.2, h.2⟩
theorem goodS_who {k : Int} {n m : Nat} {u : Ky} (h1 : k ≠ 1) (h2 : k ≠ 2) (h : goodS k n m u = true) : n = 0 ∧ m = 0 := by
 simp only [goodS, if_neg h1, if_neg h2, Bool.and_eq_true, decide_eq_true_eq] at h
 exact h
theorem readS_tail {k : Int} {p q : By} {u : Ky} {t : List UInt8} (hg : goodS k p.length q.length u = true) : readS k (tailS k p q u ++ t, 0) = (p, q, u, (t, 0)) := by
 by_cases h1 : k = 1
 ·subst h1
  obtain ⟨g1, g2, g3, rfl⟩ := goodS_1 hg
  have e : tailS 1 p q z32 = blkB p ++ blkB q := rfl
  have e1 := blk_enc p (blkB q ++ t) (by omega)
  have e2 := blk_enc q t (by omega)
  simp only [readS, if_pos, e, List.append_assoc, e1, e2]
 ·by_cases h2 : k = 2
  ·subst h2
   obtain ⟨g1, g2, g3, rfl⟩ := goodS_2 hg
   obtain rfl : q = [] := List.eq_nil_of_length_eq_zero g3
   have e : tailS 2 p [] z32 = blkB p := rfl
   have e1 := blk_enc p t (by omega)
   simp [readS, e, e1]
  ·obtain ⟨g1, g2⟩ := goodS_who h1 h2 hg
   obtain rfl : p = [] := List.eq_nil_of_length_eq_zero g1
   obtain rfl : q = [] := List.eq_nil_of_length_eq_zero g2
   have e1 := rDigest_enc u t
   have e : tailS k [] [] u = u.1 := by simp [tailS, h1, h2]
   have e2 : digK (u.1 ++ t, 0) = u := Subtype.ext (by show (rDigest (u.1 ++ t, 0)).1 = u.1; rw [e1])
   simp only [readS, if_neg h1, if_neg h2, e, e1, e2]
theorem readS_back {k : Int} {p q : By} {u : Ky} {l t : List UInt8} (h : readS k (l, 0) = (p, q, u, (t, 0))) : l = tailS k p q u ++ t := by
 by_cases h1 : k = 1
 ·subst h1
  simp only [readS, if_pos, Prod.mk.injEq] at h
  obtain ⟨e1, e2, e3, e4⟩ := h
  obtain ⟨⟨p', l1, e⟩, hb⟩ : ∃ s, rBlock (l, 0) = s := ⟨_, rfl⟩
  rw [hb] at e1 e2 e4
  dsimp only at e1 e2 e4
  by_cases he : e = 0
  ·subst he
   subst e1
   have k1 := rBlock_back hb
   obtain ⟨⟨q', l2, e'⟩, hb2⟩ : ∃ s, rBlock (l1, 0) = s := ⟨_, rfl⟩
   rw [hb2] at e2 e4
   dsimp only at e2 e4
   subst e2
   injection e4 with e4 e5
   subst e4; subst e5
   have k2 := rBlock_back hb2
   show l = blkB p' ++ blkB q' ++ l2
   unfold blkB
   rw [k1, k2]; simp
  ·have := rBlock_err (l := l1) he
   rw [e4] at this
   exact absurd rfl this
 ·by_cases h2 : k = 2
  ·subst h2
   have e0 : readS 2 (l, 0) = ((rBlock (l, 0)).1, [], z32, (rBlock (l, 0)).2) := rfl
   rw [e0] at h
   simp only [Prod.mk.injEq] at h
   obtain ⟨e1, rfl, rfl, e4⟩ := h
   have hb : rBlock (l, 0) = (p, (t, 0)) := by rw [← e1, ← e4]
   exact rBlock_back hb
  ·simp only [readS, if_neg h1, if_neg h2, Prod.mk.injEq] at h
   obtain ⟨rfl, rfl, rfl, e4⟩ := h
   have e : tailS k [] [] (digK (l, 0)) = (rDigest (l, 0)).1 := by simp [tailS, h1, h2]; rfl
   rw [e]
   unfold rDigest rTake at e4 ⊢
   by_cases h3 : l.length < 32
   ·simp [h3] at e4
   ·simp only [ne_eq, not_true_eq_false, if_false, h3] at e4 ⊢
    injection e4 with e4
    rw [← e4, List.take_append_drop]
theorem readL_enc : ∀ (L : List Opn) (t : List UInt8), (∀ o ∈ L, okO o = true) → readL L.length (L.flatMap opB ++ t, 0) = some (L, (t, 0))
 | [], t, _ => rfl
 | (k, p, q, u) :: L, t, h => by
  have h0 := h (k, p, q, u) (by simp)
  obtain ⟨k1, k2, k3⟩ := okOp_of (show okOp k p.length q.length u = true from h0)
  have hkn : (UInt8.ofNat k.toNat).toNat = k.toNat := UInt8.toNat_ofNat_of_lt' (by show k.toNat < 256; omega)
  have ih := readL_enc L t (fun o ho => h o (by simp [ho]))
  have e : ((k, p, q, u) :: L).flatMap opB ++ t = UInt8.ofNat k.toNat :: (tailS k p q u ++ (L.flatMap opB ++ t)) := by
   simp [opB]
  have hkk : ((k.toNat : Nat) : Int) = k := Int.toNat_of_nonneg (by omega)
  rw [e, List.length_cons, readL, rWord_cons]
  dsimp only
  rw [hkn, if_pos (by omega), hkk, readS_tail k3]
  dsimp only
  rw [if_pos ⟨rfl, k3⟩, ih]
  rfl
theorem readL_back : ∀ (n : Nat) (l : List UInt8) (L : List Opn) (t : List UInt8), readL n (l, 0) = some (L, (t, 0)) → L.length = n ∧ (∀ o ∈ L, okO o = true) ∧ l = L.flatMap opB ++ t
 | 0, l, L, t, h => by
  rw [readL] at h
  injection h with h
  injection h with h1 h2
  injection h2 with h2
  subst h1; subst h2
  exact ⟨rfl, fun o ho => (by cases ho), rfl⟩
 | n + 1, l, L, t, h => by
  rw [readL] at h
  rcases l with _ | ⟨c, l⟩
  ·rw [rWord_nil] at h
   simp at h
  ·rw [rWord_cons] at h
   dsimp only at h
   by_cases hk : 1 ≤ c.toNat ∧ c.toNat ≤ 6
   ·rw [if_pos hk] at h
    obtain ⟨⟨p, q, u, l2, e2⟩, hs⟩ : ∃ s, readS (c.toNat : Nat) (l, 0) = s := ⟨_, rfl⟩
    rw [hs] at h
    dsimp only at h
    by_cases hg : e2 = 0 ∧ goodS (c.toNat : Nat) p.length q.length u = true
    ·rw [if_pos hg] at h
     obtain ⟨rfl, hg⟩ := hg
     obtain ⟨⟨L2, s2⟩, hL2⟩ : ∃ r, readL n (l2, 0) = some r := by
      cases hr : readL n (l2, 0) with
      | none => rw [hr] at h; cases h
      | some r => exact ⟨r, rfl⟩
     rw [hL2] at h
     injection h with h
     injection h with h1 h2
     subst h1; subst h2
     obtain ⟨i1, i2, i3⟩ := readL_back n l2 L2 t hL2
     have hb := readS_back hs
     refine ⟨by rw [List.length_cons, i1], fun o ho => ?_, ?_⟩
     ·rcases List.mem_cons.1 ho with rfl | ho
      ·show okOp (c.toNat : Nat) p.length q.length u = true
       unfold okOp
       rw [hg, decide_eq_true (by omega), decide_eq_true (by omega)]
       rfl
      ·exact i2 o ho
     ·rw [List.flatMap_cons, opB]
      dsimp only
      rw [Int.toNat_natCast, UInt8.ofNat_toNat, hb, i3]
      simp
    ·rw [if_neg hg] at h; cases h
   ·rw [if_neg hk] at h; cases h
theorem rEnd_zero {s : RS} (h : rEnd s = 0) : s = ([], 0) := by
 obtain ⟨l, e⟩ := s
 unfold rEnd at h
 by_cases h1 : e = 0
 ·subst h1
  by_cases h2 : l = []
  ·subst h2; rfl
  ·simp [h2] at h
 ·simp [h1] at h
theorem readO_back {b : By} {L : List Opn} (h : readO b = (L, 0)) : bytesO L = (b, 0) := by
 unfold readO at h
 by_cases h8 : 8 < (rWord 1 (b, 0)).1
 ·rw [if_pos h8] at h; cases h
 rw [if_neg h8] at h
 rcases b with _ | ⟨c, b⟩
 ·rw [rWord_nil] at h
  simp [readL, rEnd] at h
 ·rw [rWord_cons] at h h8
  dsimp only at h h8
  cases hr : readL c.toNat (b, 0) with
  | none => rw [hr] at h; cases h
  | some r =>
   obtain ⟨L2, s⟩ := r
   rw [hr] at h
   dsimp only at h
   by_cases hE : rEnd s = 0
   ·rw [if_pos hE] at h
    injection h with h
    subst h
    rw [rEnd_zero hE] at hr
    obtain ⟨i1, i2, i3⟩ := readL_back _ _ _ _ hr
    unfold bytesO
    rw [if_neg (by omega), if_pos (List.all_eq_true.2 i2), i1, i3]
    simp
   ·rw [if_neg hE] at h; cases h
theorem bytesO_ok {L : List Opn} {x : By} (h : bytesO L = (x, 0)) : L.length ≤ 8 ∧ (∀ o ∈ L, okO o = true) ∧ x = UInt8.ofNat L.length :: L.flatMap opB := by
 unfold bytesO at h
 by_cases h8 : 8 < L.length
 ·rw [if_pos h8] at h; cases h
 rw [if_neg h8] at h
 by_cases hk : L.all okO = true
 ·rw [if_pos hk] at h
  injection h with h
  exact ⟨by omega, List.all_eq_true.1 hk, h.symm⟩
 ·rw [if_neg hk] at h; cases h
theorem readO_bytes {L : List Opn} {x : By} (h : bytesO L = (x, 0)) : readO x = (L, 0) := by
 obtain ⟨h1, h2, rfl⟩ := bytesO_ok h
 have hn : (UInt8.ofNat L.length).toNat = L.length := UInt8.toNat_ofNat_of_lt' (by show L.length < 256; omega)
 have e := readL_enc L [] h2
 rw [List.append_nil] at e
 unfold readO
 rw [rWord_cons]
 dsimp only
 rw [hn, if_neg (by omega), e]
 rfl
theorem bytesO_err (L : List Opn) : (bytesO L).2 = 0 ∨ (bytesO L).2 = 2 ∧ (bytesO L).1 = [] := by
 unfold bytesO
 (repeat' split) <;> simp
end Go.Proofs.YtahkeoegbjopfaaGreat
/-
  Plain laws of ops: valid states stay valid; what Get answers after an op.
-/
namespace Go.Proofs.YtahkeoegbjopfaaGreat
set_option maxRecDepth 100000
abbrev cmpR (a b : By) : Prop := cmpL a b < 0
theorem srt_pw {L : List By} : Srt L ↔ L.Pairwise cmpR := by
 constructor
 ·intro h
  rw [List.pairwise_iff_getElem]
  exact fun i j hi hj hij => cmpL_chain h j i hj hij
 ·intro h i hi h0
  rw [List.pairwise_iff_getElem] at h
  exact h (i - 1) i (by omega) hi (by omega)
theorem low_spec {L : List By} (hs : Srt L) (p : By) : (∀ j (h : j < L.length), j < low L p → cmpL L[j] p < 0) ∧ (∀ j (h : j < L.length), low L p ≤ j → 0 ≤ cmpL L[j] p) := by
 have h1 : ∀ j (h : j < L.length), j < L.findIdx (fun x => decide (0 ≤ cmpL x p)) → cmpL L[j] p < 0 := fun j hj hjk => by
  have := List.not_of_lt_findIdx hjk
  simp only [Bool.not_eq_true, decide_eq_false_iff_not] at this
  omega
 have h2 : ∀ j (h : j < L.length), L.findIdx (fun x => decide (0 ≤ cmpL x p)) ≤ j → 0 ≤ cmpL L[j] p := fun j hj hjk => by
  have hk : L.findIdx (fun x => decide (0 ≤ cmpL x p)) < L.length := by omega
  have := List.findIdx_getElem (w := hk)
  simp only [decide_eq_true_eq] at this
  exact above_all hs hk this j hj hjk
 have e := low_eq (List.findIdx_le_length) h1 h2
 rw [e]
 exact ⟨h1, h2⟩
def insL (L : List By) (p : By) : List By := L.take (low L p) ++ [p] ++ L.drop (low L p)
theorem mem_insL {L : List By} {p x : By} : x ∈ insL L p ↔ x = p ∨ x ∈ L := by
 unfold insL
 rw [List.mem_append, List.mem_append, List.mem_singleton]
 have e : x ∈ L ↔ x ∈ L.take (low L p) ∨ x ∈ L.drop (low L p) := by
  conv => lhs; rw [← List.take_append_drop (low L p) L]
  exact List.mem_append
 rw [e]
 constructor
 ·rintro ((h | h) | h)
  ·exact .inr (.inl h)
  ·exact .inl h
  ·exact .inr (.inr h)
 ·rintro (h | h | h)
  ·exact .inl (.inr h)
  ·exact .inl (.inl h)
  ·exact .inr h
theorem srt_insL {L : List By} {p : By} (hs : Srt L) (hp : p ∉ L) : Srt (insL L p) := by
 obtain ⟨h1, h2⟩ := low_spec hs p
 have hpw := srt_pw.1 hs
 have ht : ∀ a ∈ L.take (low L p), cmpL a p < 0 := fun a ha => by
  obtain ⟨j, hj, rfl⟩ := List.getElem_of_mem ha
  rw [List.length_take] at hj
  rw [List.getElem_take]
  exact h1 j (by omega) (by omega)
 have hd : ∀ b ∈ L.drop (low L p), cmpL p b < 0 := fun b hb => by
  have hbL : b ∈ L := List.mem_of_mem_drop hb
  obtain ⟨j, hj, rfl⟩ := List.getElem_of_mem hb
  rw [List.length_drop] at hj
  rw [List.getElem_drop] at hbL ⊢
  have h3 := h2 (low L p + j) (by omega) (by omega)
  have h4 := cmpL_neg L[low L p + j] p
  have h5 : cmpL L[low L p + j] p ≠ 0 := fun e => hp ((cmpL_zero _ _).1 e ▸ hbL)
  omega
 rw [srt_pw, insL, List.append_assoc, List.pairwise_append]
 refine ⟨hpw.sublist (List.take_sublist _ _), ?_, ?_⟩
 ·rw [List.singleton_append, List.pairwise_cons]
  exact ⟨hd, hpw.sublist (List.drop_sublist _ _)⟩
 ·intro a ha b hb
  rw [List.singleton_append, List.mem_cons] at hb
  rcases hb with rfl | hb
  ·exact ht a ha
  ·exact cmpL_trans _ _ _ (ht a ha) (hd b hb)
theorem cut_sub {α : Type} (L : List α) (k : Nat) : (cutI L k).Sublist L := by
 unfold cutI
 conv => rhs; rw [← List.take_append_drop k L]
 exact List.Sublist.append (List.Sublist.refl _) (by rw [← List.drop_drop]; exact List.drop_sublist _ _)
theorem srt_cut {L : List By} {k : Nat} (hs : Srt L) : Srt (cutI L k) := srt_pw.2 ((srt_pw.1 hs).sublist (cut_sub L k))
theorem mem_cut {L : List By} {p x : By} {k : Nat} (hs : Srt L) (hk : k < L.length) (hp : L[k] = p) : x ∈ cutI L k ↔ x ∈ L ∧ x ≠ p := by
 have hne : ∀ j (hj : j < L.length), j ≠ k → L[j] ≠ p := fun j hj hjk e => by
  have h0 := cmpL_self p
  rcases Nat.lt_or_gt_of_ne hjk with h | h
  ·have := cmpL_chain hs k j hk h; rw [e, hp] at this; omega
  ·have := cmpL_chain hs j k hj h; rw [e, hp] at this; omega
 constructor
 ·intro h
  refine ⟨(cut_sub L k).subset h, ?_⟩
  unfold cutI at h
  rcases List.mem_append.1 h with h | h
  ·obtain ⟨j, hj, rfl⟩ := List.getElem_of_mem h
   rw [List.length_take] at hj
   rw [List.getElem_take]
   exact hne j (by omega) (by omega)
  ·obtain ⟨j, hj, rfl⟩ := List.getElem_of_mem h
   rw [List.length_drop] at hj
   rw [List.getElem_drop]
   exact hne _ (by omega) (by omega)
 ·rintro ⟨h, hx⟩
  obtain ⟨j, hj, rfl⟩ := List.getElem_of_mem h
  have hjk : j ≠ k := fun e => hx (by subst e; exact hp)
  unfold cutI
  rw [List.mem_append]
  rcases Nat.lt_or_gt_of_ne hjk with h1 | h1
  ·exact .inl (List.mem_take_iff_getElem.2 ⟨j, by omega, rfl⟩)
  ·exact .inr (List.mem_drop_iff_getElem.2 ⟨j - (k + 1), by omega, by congr 1; omega⟩)
theorem map_cut {α β : Type} (f : α → β) (L : List α) (k : Nat) : (cutI L k).map f = cutI (L.map f) k := by
 unfold cutI
 rw [List.map_append, List.map_take, List.map_drop]
theorem cut_len {α : Type} {L : List α} {k : Nat} (hk : k < L.length) : (cutI L k).length + 1 = L.length := by
 unfold cutI
 rw [List.length_append, List.length_take, List.length_drop]; omega
theorem low_at {L : List By} {p : By} (hs : Srt L) (h : p ∈ L) : ∃ hk : low L p < L.length, L[low L p] = p := by
 obtain ⟨h1, h2⟩ := low_spec hs p
 obtain ⟨hk, e⟩ := (has_eq hs h1 h2).1 h
 exact ⟨hk, (cmpL_zero _ _).1 e⟩
theorem okI_iff {I : List (By × By)} : OkI I ↔ (∀ x ∈ I, (1 ≤ x.1.length ∧ x.1.length ≤ 16) ∧ x.2.length ≤ 32) ∧ Srt (I.map Prod.fst) := by
 constructor
 ·intro h
  refine ⟨fun x hx => ?_, h.srt⟩
  obtain ⟨i, hi, rfl⟩ := List.getElem_of_mem hx
  exact (h i hi).1
 ·rintro ⟨h1, h2⟩ i hi
  refine ⟨h1 _ (List.getElem_mem hi), fun h0 => ?_⟩
  have := h2 i (by rw [List.length_map]; exact hi) h0
  rwa [List.getElem_map, List.getElem_map] at this
theorem incK_iff {L : List Ky} : IncK L ↔ Srt (L.map Subtype.val) := by
 constructor
 ·exact IncK.srt
 ·intro h i hi h0
  have := h i (by rw [List.length_map]; exact hi) h0
  rwa [List.getElem_map, List.getElem_map] at this
/-! The lists after an op. -/
theorem map_insK (L : List Ky) (u : Ky) : (L.take (low (L.map Subtype.val) u.1) ++ [u] ++ L.drop (low (L.map Subtype.val) u.1)).map Subtype.val = insL (L.map Subtype.val) u.1 := by
 simp [insL, List.map_take, List.map_drop]
theorem map_insI (I : List (By × By)) (p q : By) : (I.take (low (I.map Prod.fst) p) ++ [(p, q)] ++ I.drop (low (I.map Prod.fst) p)).map Prod.fst = insL (I.map Prod.fst) p := by
 simp [insL, List.map_take, List.map_drop]
theorem ins_len {α : Type} (L : List α) (x : α) (k : Nat) (hk : k ≤ L.length) : (L.take k ++ [x] ++ L.drop k).length = L.length + 1 := by
 simp only [List.length_append, List.length_take, List.length_drop, List.length_singleton]; omega
theorem addS_spec {L : List Ky} {u : Ky} {m : Nat} (h : IncK L) : IncK (addS L u m).1 ∧ ((addS L u m).2 = false → (addS L u m).1 = L) ∧ ((addS L u m).2 = true → u ∉ L ∧ L.length < m ∧ (addS L u m).1.length = L.length + 1 ∧ ∀ x, x ∈ (addS L u m).1 ↔ x = u ∨ x ∈ L) := by
 unfold addS
 by_cases hc : u ∈ L ∨ m ≤ L.length
 ·rw [if_pos hc]
  exact ⟨h, fun _ => rfl, fun e => by cases e⟩
 ·rw [if_neg hc]
  have hu : u ∉ L := fun e => hc (.inl e)
  have hlow : low (L.map Subtype.val) u.1 ≤ L.length := by have := low_le (L.map Subtype.val) u.1; rwa [List.length_map] at this
  refine ⟨?_, fun e => (by cases e), fun _ => ⟨hu, by omega, ins_len L u _ hlow, fun x => ?_⟩⟩
  ·rw [incK_iff, map_insK]
   exact srt_insL h.srt (fun e => hu ((mem_val u L).1 e))
  ·rw [← mem_val, map_insK, mem_insL, mem_val]
   exact or_congr_left Subtype.ext_iff.symm
theorem dropS_spec {L : List Ky} {u : Ky} {m : Nat} (h : IncK L) : IncK (dropS L u m).1 ∧ ((dropS L u m).2 = false → (dropS L u m).1 = L) ∧ ((dropS L u m).2 = true → u ∈ L ∧ m < L.length ∧ (dropS L u m).1.length + 1 = L.length ∧ ∀ x, x ∈ (dropS L u m).1 ↔ x ∈ L ∧ x ≠ u) := by
 unfold dropS
 by_cases hc : u ∉ L ∨ L.length ≤ m
 ·rw [if_pos hc]
  exact ⟨h, fun _ => rfl, fun e => by cases e⟩
 ·rw [if_neg hc]
  have hu : u ∈ L := Decidable.not_not.1 (fun e => hc (.inl e))
  have hs := h.srt
  obtain ⟨hk, e1⟩ := low_at hs ((mem_val u L).2 hu)
  have hk2 : low (L.map Subtype.val) u.1 < L.length := by rwa [List.length_map] at hk
  refine ⟨?_, fun e => (by cases e), fun _ => ⟨hu, by omega, cut_len hk2, fun x => ?_⟩⟩
  ·rw [incK_iff, map_cut]
   exact srt_cut hs
  ·rw [← mem_val, map_cut, mem_cut hs hk e1, mem_val]
   exact and_congr_right fun _ => not_congr Subtype.ext_iff.symm
theorem set_same {α : Type} {L : List α} {k : Nat} {p : α} (hk : k < L.length) (e : L[k] = p) : L.set k p = L := by
 subst e
 exact List.set_getElem_self hk
theorem putS_spec {I : List (By × By)} {p q : By} (h : OkI I) (hp : 1 ≤ p.length ∧ p.length ≤ 16) (hq : q.length ≤ 32) : OkI (putS I p q).1 ∧ ((putS I p q).2 = false → (putS I p q).1 = I) ∧ (I.length ≤ 1024 → (putS I p q).1.length ≤ 1024) ∧ ((putS I p q).2 = true → (p, q) ∈ (putS I p q).1 ∧ ∀ x v, x ≠ p → ((x, v) ∈ (putS I p q).1 ↔ (x, v) ∈ I)) := by
 obtain ⟨h1, hs⟩ := okI_iff.1 h
 unfold putS
 by_cases hc : p ∈ I.map Prod.fst
 ·rw [if_pos hc]
  obtain ⟨hk, e1⟩ := mem_low hs hc
  have hmem : ∀ y, y ∈ I.set (low (I.map Prod.fst) p) (p, q) → y = (p, q) ∨ y ∈ I := fun y hy => (List.mem_or_eq_of_mem_set hy).symm
  refine ⟨okI_iff.2 ⟨fun x hx => ?_, ?_⟩, fun e => (by cases e), fun hl => by rw [List.length_set]; exact hl, fun _ => ⟨List.mem_set hk _, fun x v hx => ⟨fun hm => ?_, fun hm => ?_⟩⟩⟩
  ·rcases hmem x hx with rfl | hx
   ·exact ⟨hp, hq⟩
   ·exact h1 x hx
  ·rw [List.map_set]
   have e2 : (I.map Prod.fst)[low (I.map Prod.fst) p]'(by rw [List.length_map]; exact hk) = p := by rw [List.getElem_map]; exact e1
   have e3 := set_same (by rw [List.length_map]; exact hk) e2
   show Srt ((I.map Prod.fst).set (low (I.map Prod.fst) p) p)
   rw [e3]; exact hs
  ·rcases hmem _ hm with e | hm
   ·injection e with e; exact absurd e hx
   ·exact hm
  ·obtain ⟨j, hj, e⟩ := List.getElem_of_mem hm
   have hjk : low (I.map Prod.fst) p ≠ j := fun e2 => hx (by subst e2; rw [← e1, e])
   rw [List.mem_iff_getElem]
   exact ⟨j, by rw [List.length_set]; exact hj, by rw [List.getElem_set, if_neg hjk, e]⟩
 ·rw [if_neg hc]
  by_cases hf : 1024 ≤ I.length
  ·rw [if_pos hf]
   exact ⟨h, fun _ => rfl, fun hl => hl, fun e => by cases e⟩
  ·rw [if_neg hf]
   have hlow : low (I.map Prod.fst) p ≤ I.length := by have := low_le (I.map Prod.fst) p; rwa [List.length_map] at this
   have hmem : ∀ y, y ∈ I.take (low (I.map Prod.fst) p) ++ [(p, q)] ++ I.drop (low (I.map Prod.fst) p) ↔ y = (p, q) ∨ y ∈ I := fun y => by
    rw [List.mem_append, List.mem_append, List.mem_singleton]
    have e : y ∈ I ↔ y ∈ I.take (low (I.map Prod.fst) p) ∨ y ∈ I.drop (low (I.map Prod.fst) p) := by
     conv => lhs; rw [← List.take_append_drop (low (I.map Prod.fst) p) I]
     exact List.mem_append
    rw [e]
    constructor
    ·rintro ((h | h) | h)
     ·exact .inr (.inl h)
     ·exact .inl h
     ·exact .inr (.inr h)
    ·rintro (h | h | h)
     ·exact .inl (.inr h)
     ·exact .inl (.inl h)
     ·exact .inr h
   refine ⟨okI_iff.2 ⟨fun x hx => ?_, ?_⟩, fun e => (by cases e), fun hl => by rw [ins_len I _ _ hlow]; omega, fun _ => ⟨(hmem _).2 (.inl rfl), fun x v hx => ?_⟩⟩
   ·rcases (hmem x).1 hx with rfl | hx
    ·exact ⟨hp, hq⟩
    ·exact h1 x hx
   ·rw [map_insI]
    exact srt_insL hs hc
   ·rw [hmem]
    exact ⟨fun e => e.elim (fun e => by injection e with e; exact absurd e hx) id, .inr⟩
theorem delS_spec {I : List (By × By)} {p : By} (h : OkI I) : OkI (delS I p).1 ∧ ((delS I p).2 = false → (delS I p).1 = I) ∧ (delS I p).1.length ≤ I.length ∧ ((delS I p).2 = true → p ∉ (delS I p).1.map Prod.fst ∧ ∀ x v, x ≠ p → ((x, v) ∈ (delS I p).1 ↔ (x, v) ∈ I)) := by
 obtain ⟨h1, hs⟩ := okI_iff.1 h
 unfold delS
 by_cases hc : p ∈ I.map Prod.fst
 ·rw [if_pos hc]
  obtain ⟨hk, e1⟩ := mem_low hs hc
  obtain ⟨hk2, e2⟩ := low_at hs hc
  refine ⟨okI_iff.2 ⟨fun x hx => h1 x ((cut_sub _ _).subset hx), by rw [map_cut]; exact srt_cut hs⟩, fun e => (by cases e), by have := cut_len hk; show (cutI I _).length ≤ I.length; omega, fun _ => ⟨fun hm => ?_, fun x v hx => ⟨fun hm => (cut_sub _ _).subset hm, fun hm => ?_⟩⟩⟩
  ·rw [map_cut, mem_cut hs hk2 e2] at hm
   exact hm.2 rfl
  ·obtain ⟨j, hj, e⟩ := List.getElem_of_mem hm
   have hjk : j ≠ low (I.map Prod.fst) p := fun e3 => hx (by subst e3; rw [← e1, e])
   unfold cutI
   rw [List.mem_append]
   rcases Nat.lt_or_gt_of_ne hjk with h2 | h2
   ·exact .inl (List.mem_take_iff_getElem.2 ⟨j, by omega, e⟩)
   ·exact .inr (List.mem_drop_iff_getElem.2 ⟨j - (low (I.map Prod.fst) p + 1), by omega, by rw [← e]; congr 1; omega⟩)
 ·rw [if_neg hc]
  exact ⟨h, fun _ => rfl, Nat.le_refl _, fun e => by cases e⟩
end Go.Proofs.YtahkeoegbjopfaaGreat
