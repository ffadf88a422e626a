/-
  Walks of package octet: the reader's Digest.
-/
import Derived.Test.YtahkeoegbjopfaaGreatMg4
import Derived.Lib.Overlaps
namespace Go.Proofs.YtahkeoegbjopfaaGreat
set_option maxRecDepth 100000
open Go.RowKit

theorem Tryz.build_Digest0 (w : World) : (Instr.build 44 (([] : List Nat).zip ([] : List Value)).toArray).run Tryz.prog w = .ok (.agg (B8 (nulls 32)).toArray) w := by kernel_rfl

theorem C_RDigest {g : Nat} {l : List UInt8} {p e : Nat} (w : World) (hR : RdrI w g l p e) :
  CallsR Tryz.prog 123 [.pointer (some ⟨g, 0, none⟩)] w fun v w' => v = .agg (B8 (rDigest (l.drop p, e)).1).toArray ∧ w.grownBy w' (some g) ∧
   ∃ p', RdrI w' g l p' (rDigest (l.drop p, e)).2.2 ∧ (rDigest (l.drop p, e)).2.1 = l.drop p' := by
 refine callsR Tryz.func123 rfl rfl (by kernel_rfl) rfl ?_
 refine rk_seq ?_
 refine rk_region ?_
 refine wl_alloc (B8 (nulls 32)) Tryz.zeroValue44 rfl ?_
 intro w1 hB1 hb1 hz1
 refine wl_nil ?_
 refine rk_seq ?_
 refine rk_region ?_
 refine wl_p (fun _ => o_move rfl) ?_
 refine wl_call rfl (C_take 32 rfl w1 (hR.below hb1)) ?_
 rintro _ w3 ⟨hg3, hz3, h⟩
 obtain ⟨_, _, hBR, -⟩ := hR.blk'
 have hgl := hBR.lt
 have hB3 := hB1.grown hg3 (by intro e; injection e with e; omega)
 have hg13 := grownBy_trans (grownBy_of_below hb1 (some g)) hg3
 rcases h with h | h
 ·obtain ⟨rfl, h3, hR3, A3, c3, rfl, hc3, hr3, hA3⟩ := h
  have hb1 : rDigest (l.drop p, 0) = ((l.drop p).take 32, ((l.drop p).drop 32, 0)) := by
   unfold rDigest rTake
   rw [if_neg (show ¬ (l.drop p, 0).2 ≠ 0 by simp), if_neg (show ¬ (l.drop p).length < 32 by simp; omega)]; rfl
  rw [hb1]
  have hlen : ((l.drop p).take 32).length = 32 := by simp; omega
  obtain ⟨b, o, rfl, hbl, hcell⟩ := hr3.at_ (by intro e; rw [e] at hlen; simp at hlen)
  refine wl_p (fun _ => o_move rfl) ?_
  refine wl_p (fun _ => o_ext20 rfl) ?_
  refine wl_p (fun _ => o_ext21 rfl) ?_
  refine wl_p (fun _ => o_assign rfl) ?_
  refine wl_p (fun _ => o_assign rfl) ?_
  refine wl_nil ?_
  refine rk_seq ?_
  refine rk_seq ?_
  refine rk_region ?_
  refine wl_p (fun _ => o_move rfl) ?_
  refine wl_p (fun _ => o_not rfl) ?_
  refine wl_nil ?_
  refine rk_false rfl ?_
  refine rk_skip ?_
  refine rk_seq ?_
  refine rk_region ?_
  refine wl_p (fun _ => o_move rfl) ?_
  refine wl_p (fun _ => o_arrptr Tryz.underlying44 rfl (by omega)) ?_
  refine wl_r (o_loadn (cs := B8 ((l.drop p).take 32)) Tryz.isAgg44 (by rw [B8_length, hlen]; exact Tryz.sizeOf44) rfl ?_) ?_
  ·intro j u hu
   have hj : j < ((l.drop p).take 32).length := by
    rcases Nat.lt_or_ge j ((l.drop p).take 32).length with h | h
    ·exact h
    ·rw [List.getElem?_eq_none (by rw [B8_length]; exact h)] at hu; cases hu
   rw [B8_get _ _ hj] at hu
   rw [add_plain, hcell j hj, hu]
  refine wl_store_all Tryz.sizeOf44 rfl rfl (by rw [B8_length, hlen]) (B8_oneCell' _) hB3 (by simp [B8, nulls]) ?_
  intro w4 hB4 hg4 hz4
  refine wl_nil ?_
  refine ret_cell rfl rfl Tryz.isAgg44 Tryz.sizeOf44 hB4 (by rw [B8_length, hlen]) ?_
  exact ⟨rfl, grownBy_new hg13 hg4 (Nat.le_refl _), p + 32, hR3.grown hg4 hB3 (by decide) (by omega), by rw [List.drop_drop]⟩
 ·obtain ⟨rfl, h3, hR3⟩ := h
  have hb1 : rDigest (l.drop p, e) = (nulls 32, (l.drop p, if e = 0 then 5 else e)) := by
   unfold rDigest rTake
   by_cases he : e = 0
   ·rw [if_neg (show ¬ (l.drop p, e).2 ≠ 0 by simp [he]), if_pos (show (l.drop p).length < 32 by rw [List.length_drop]; exact h3 he), if_pos he]; rfl
   ·rw [if_pos (show (l.drop p, e).2 ≠ 0 from he), if_neg he, if_pos he]
  rw [hb1]
  refine wl_p (fun _ => o_move rfl) ?_
  refine wl_p (fun _ => o_ext20 rfl) ?_
  refine wl_p (fun _ => o_ext21 rfl) ?_
  refine wl_p (fun _ => o_assign rfl) ?_
  refine wl_p (fun _ => o_assign rfl) ?_
  refine wl_nil ?_
  refine rk_seq ?_
  refine rk_seq ?_
  refine rk_region ?_
  refine wl_p (fun _ => o_move rfl) ?_
  refine wl_p (fun _ => o_not rfl) ?_
  refine wl_nil ?_
  refine rk_true rfl ?_
  refine rk_seq ?_
  refine rk_region ?_
  refine wl_p (fun _ => o_build (is := []) (xs := []) (vs := []) rfl (fun w => Tryz.build_Digest0 w)) ?_
  refine wl_store_all Tryz.sizeOf44 rfl rfl (by simp [B8, nulls]) (B8_oneCell' _) hB3 (by simp [B8, nulls]) ?_
  intro w4 hB4 hg4 hz4
  refine wl_nil ?_
  refine ret_cell rfl rfl Tryz.isAgg44 Tryz.sizeOf44 hB4 (by simp [B8, nulls]) ?_
  exact ⟨rfl, grownBy_new hg13 hg4 (Nat.le_refl _), p, hR3.grown hg4 hB3 (by decide) (by omega), rfl⟩

end Go.Proofs.YtahkeoegbjopfaaGreat
/-
  The reader of package octet: Digest and End, in the form that the search applies.
-/
namespace Go.Proofs.YtahkeoegbjopfaaGreat
set_option maxRecDepth 100000
open Go.RowKit
structure DigR (l : List UInt8) (e : Nat) (p l' : List UInt8) (e' : Nat) : Prop where
 h : rDigest (l, e) = (p, (l', e'))
theorem rDigest_len (s : RS) : (rDigest s).1.length = 32 := by
 unfold rDigest rTake nulls
 by_cases h : s.2 ≠ 0
 ·simp [h]
 ·by_cases h2 : s.1.length < 32
  ·simp [h, h2]
  ·simp [h, h2]; omega
theorem C_rDigest {g e e' : Nat} {l l' p : List UInt8} (w : World) (hR : Rdr w g (l, e)) (hr : DigR l e p l' e') :
  CallsR Tryz.prog 123 [.pointer (some ⟨g, 0, none⟩)] w fun v w' => v = .agg (B8 p).toArray ∧ Rdr w' g (l', e') ∧ Grew w w' 119 (some g) ∧ Chg g (g + 1) w w' := by
 have hR0 := hR
 obtain ⟨m, q, h, hs⟩ := hR
 obtain rfl : l = m.drop q := hs
 refine (C_RDigest w h).mono ?_
 rintro v w' ⟨rfl, hg, p', hR, hs⟩
 dsimp only at hR hs ⊢
 rw [hr.h] at hR hs ⊢
 exact ⟨rfl, hR.rdr (s := (l', e')) hs, grew_rdr hR0 hg, Chg.of_g1 hg (Nat.le_refl _) (by omega)⟩
theorem C_rEnd {g e : Nat} {l : List UInt8} (w : World) (hR : Rdr w g (l, e)) :
  CallsR Tryz.prog 42 [.pointer (some ⟨g, 0, none⟩)] w fun v w' => v = .int .i64 ((rEnd (l, e) : Nat) : Int) ∧ Below w.heap.size w w' := by
 obtain ⟨m, q, h, hs⟩ := hR
 obtain rfl : l = m.drop q := hs
 exact (C_REnd w h).mono fun _ _ ⟨hv, hb, _⟩ => ⟨hv, hb⟩
theorem Grew.of_chg1 {w w' : World} {g : Nat} {t : TypeId} (h : Chg g (g + 1) w w') (ht : TyAt w g t) : Grew w w' t (some g) :=
 ⟨⟨h.os, h.tape, h.output, h.size, fun k hk he => h.block k hk (by
  have : k ≠ g := fun e => he (by rw [e])
  omega)⟩, fun k hk => by injection hk with hk; subst hk; exact ht⟩
end Go.Proofs.YtahkeoegbjopfaaGreat
/-
  Walks of package ops: one op read.
-/
namespace Go.Proofs.YtahkeoegbjopfaaGreat
set_option maxRecDepth 100000
open Go.RowKit
def digK (s : RS) : Ky := ⟨(rDigest s).1, rDigest_len s⟩
def readS (k : Int) (s : RS) : By × By × Ky × RS :=
 if k = 1 then ((rBlock s).1, (rBlock (rBlock s).2).1, z32, (rBlock (rBlock s).2).2)
 else if k = 2 then ((rBlock s).1, [], z32, (rBlock s).2)
 else ([], [], digK s, (rDigest s).2)
theorem C_readDelete {g e e1 : Nat} {l l1 p : By} (w : World) (hR : Rdr w g (l, e)) (h1 : BlockR l e p l1 e1) :
  CallsR Tryz.prog 75 [.pointer (some ⟨g, 0, none⟩)] w fun v w' => ∃ K c, v = .agg (opC 0 K p.length c none 0 0 z32).toArray ∧ RdT w' K p ∧ p.length ≤ c ∧ c ≤ maxLen ∧ Rdr w' g (l1, e1) ∧ Chg g (g + 1) w w' := by
 have hgl := hR.lt
 refine callsR Tryz.func75 rfl rfl (by kernel_rfl) rfl ?_
 have hcg : Chg g (g + 1) w w := Chg.refl
 refine rk_seq ?_
 refine rk_region ?_
 refine wl_allocOp ?_
 rintro g2 w2 f2 b2 i2 i2_1
 have s2 := b2.size
 replace hcg := hcg.thenB b2
 replace hR := hR.u b2
 refine wl_nil ?_
 refine rk_seq ?_
 refine rk_region ?_
 refine wl_p (fun _ => o_move rfl) ?_
 refine wl_call rfl (C_rBlock _ hR h1) ?_
 rintro v4 w4 ⟨A4, ⟨c4, ⟨rfl, ⟨f4, ⟨f4_1, ⟨g4, g4_1⟩⟩⟩⟩⟩⟩
 have qf4 := f4.cap
 have s4 := g4.size
 replace hcg := hcg.trans (Chg.of_g1 g4.g (by omega) (by omega))
 replace f2 := f2.k g4.g (ap_some (by omega))
 clear hR
 refine wl_p (fun _ => (o_bldOp1 rfl)) ?_
 refine wl_stOpB rfl f2 rfl ?_
 rintro w_1 f g_1 e_1
 have s := g_1.size
 replace hcg := hcg.andNew g_1.g (fun _ e => by injection e with e; have := hcg.size; omega)
 replace f4_1 := f4_1.y g_1 (by decide)
 replace f4 := f4.k g_1.g (ap_some (by omega))
 clear f2
 refine wl_nil ?_
 refine ret_cell rfl rfl Tryz.isAgg54 Tryz.sizeOf54 (by assumption) rfl ?_
 exact ⟨A4, c4, rfl, f4.to_RdT, f4.cap, own_max f4, f4_1, hcg⟩
theorem C_readPut {g e e1 e2 : Nat} {l l1 l2 p q : By} (w : World) (hR : Rdr w g (l, e)) (h1 : BlockR l e p l1 e1) (h2 : BlockR l1 e1 q l2 e2) :
  CallsR Tryz.prog 71 [.pointer (some ⟨g, 0, none⟩)] w fun v w' => ∃ K c V d, v = .agg (opC 0 K p.length c V q.length d z32).toArray ∧ RdT w' K p ∧ p.length ≤ c ∧ c ≤ maxLen ∧ RdT w' V q ∧ q.length ≤ d ∧ d ≤ maxLen ∧ Rdr w' g (l2, e2) ∧ Chg g (g + 1) w w' := by
 have hgl := hR.lt
 refine callsR Tryz.func71 rfl rfl (by kernel_rfl) rfl ?_
 have hcg : Chg g (g + 1) w w := Chg.refl
 refine rk_seq ?_
 refine rk_region ?_
 refine wl_allocOp ?_
 rintro g2 w2 f2 b2 i2 i2_1
 have s2 := b2.size
 replace hcg := hcg.thenB b2
 replace hR := hR.u b2
 refine wl_nil ?_
 refine rk_seq ?_
 refine rk_region ?_
 refine wl_p (fun _ => o_move rfl) ?_
 refine wl_call rfl (C_rBlock _ hR h1) ?_
 rintro v5 w5 ⟨A5, ⟨c5, ⟨rfl, ⟨f5, ⟨f5_1, ⟨g5, g5_1⟩⟩⟩⟩⟩⟩
 have qf5 := f5.cap
 have s5 := g5.size
 replace hcg := hcg.trans (Chg.of_g1 g5.g (by omega) (by omega))
 replace f2 := f2.k g5.g (ap_some (by omega))
 clear hR
 refine wl_p (fun _ => o_assign rfl) ?_
 refine wl_nil ?_
 refine rk_seq ?_
 refine rk_region ?_
 refine wl_p (fun _ => o_move rfl) ?_
 refine wl_p (fun _ => o_move rfl) ?_
 refine wl_call rfl (C_rBlock _ f5_1 h2) ?_
 rintro v8 w8 ⟨A8, ⟨c8, ⟨rfl, ⟨f8, ⟨f8_1, ⟨g8, g8_1⟩⟩⟩⟩⟩⟩
 have qf8 := f8.cap
 have s8 := g8.size
 replace hcg := hcg.trans (Chg.of_g1 g8.g (by omega) (by omega))
 replace f2 := f2.k g8.g (ap_some (by omega))
 replace f5 := f5.k g8.g (ap_some (by omega))
 clear f5_1
 refine wl_p (fun _ => (o_bldOp12 rfl rfl)) ?_
 refine wl_stOpB rfl f2 rfl ?_
 rintro w_1 f g_1 e_1
 have s := g_1.size
 replace hcg := hcg.andNew g_1.g (fun _ e => by injection e with e; have := hcg.size; omega)
 replace f5 := f5.k g_1.g (ap_some (by omega))
 replace f8_1 := f8_1.y g_1 (by decide)
 replace f8 := f8.k g_1.g (ap_some (by omega))
 clear f2
 refine wl_nil ?_
 refine ret_cell rfl rfl Tryz.isAgg54 Tryz.sizeOf54 (by assumption) rfl ?_
 exact ⟨A5, c5, A8, c8, rfl, f5.to_RdT, f5.cap, own_max f5, f8.to_RdT, f8.cap, own_max f8, f8_1, hcg⟩
theorem C_readWho {g e e1 : Nat} {l l1 : By} {u : Ky} (w : World) (hR : Rdr w g (l, e)) (h1 : DigR l e u.1 l1 e1) :
  CallsR Tryz.prog 79 [.pointer (some ⟨g, 0, none⟩)] w fun v w' => v = .agg (opC 0 none 0 0 none 0 0 u).toArray ∧ Rdr w' g (l1, e1) ∧ Chg g (g + 1) w w' := by
 have hgl := hR.lt
 refine callsR Tryz.func79 rfl rfl (by kernel_rfl) rfl ?_
 have hcg : Chg g (g + 1) w w := Chg.refl
 refine rk_seq ?_
 refine rk_region ?_
 refine wl_allocOp ?_
 rintro g2 w2 f2 b2 i2 i2_1
 have s2 := b2.size
 replace hcg := hcg.thenB b2
 replace hR := hR.u b2
 refine wl_nil ?_
 refine rk_seq ?_
 refine rk_region ?_
 refine wl_p (fun _ => o_move rfl) ?_
 refine wl_call rfl (C_rDigest _ hR h1) ?_
 rintro v4 w4 ⟨rfl, ⟨f4, ⟨g4, g4_1⟩⟩⟩
 have s4 := g4.size
 replace hcg := hcg.trans (Chg.of_g1 g4.g (by omega) (by omega))
 replace f2 := f2.k g4.g (ap_some (by omega))
 clear hR
 refine wl_p (fun _ => (o_bldOp3 rfl)) ?_
 refine wl_stOpB rfl f2 rfl ?_
 rintro w_1 f g_1 e_1
 have s := g_1.size
 replace hcg := hcg.andNew g_1.g (fun _ e => by injection e with e; have := hcg.size; omega)
 replace f4 := f4.y g_1 (by decide)
 clear f2
 refine wl_nil ?_
 refine ret_cell rfl rfl Tryz.isAgg54 Tryz.sizeOf54 f (opC_length ..) ?_
 exact ⟨rfl, f4, hcg⟩
theorem sh4_read {k : Int} {gf pf rf df : Nat} (h : Sh4 k gf pf rf df) {g : Nat} {s : RS} {r : By × By × Ky × RS} (w : World) (hR : Rdr w g s) (hr : readS k s = r) :
  CallsR Tryz.prog rf [.pointer (some ⟨g, 0, none⟩)] w fun v w' => ∃ K c V d, v = .agg (opC 0 K r.1.length c V r.2.1.length d r.2.2.1).toArray ∧ RdT w' K r.1 ∧ r.1.length ≤ c ∧ c ≤ maxLen ∧ RdT w' V r.2.1 ∧ r.2.1.length ≤ d ∧ d ≤ maxLen ∧ Rdr w' g r.2.2.2 ∧ Grew w w' 119 (some g) := by
 subst hr
 obtain ⟨l, e⟩ := s
 have hat := hR.at_
 have who : ∀ k' : Int, k' ≠ 1 → k' ≠ 2 → readS k' (l, e) = ([], [], digK (l, e), (rDigest (l, e)).2) := fun k' h1 h2 => by simp [readS, h1, h2]
 rcases h with ⟨rfl, _, _, rfl, _⟩ | ⟨rfl, _, _, rfl, _⟩ | ⟨rfl, _, _, rfl, _⟩ | ⟨rfl, _, _, rfl, _⟩ | ⟨rfl, _, _, rfl, _⟩ | ⟨rfl, _, _, rfl, _⟩
 ·refine (C_readPut w hR (p := (rBlock (l, e)).1) (l1 := (rBlock (l, e)).2.1) (e1 := (rBlock (l, e)).2.2) (q := (rBlock (rBlock (l, e)).2).1) (l2 := (rBlock (rBlock (l, e)).2).2.1) (e2 := (rBlock (rBlock (l, e)).2).2.2) ⟨rfl⟩ ⟨rfl⟩).mono ?_
  rintro v w' ⟨K, c, V, d, rfl, h1, h2, h3, h4, h5, h6, h7, h8⟩
  rw [show readS 1 (l, e) = ((rBlock (l, e)).1, (rBlock (rBlock (l, e)).2).1, z32, (rBlock (rBlock (l, e)).2).2) from by simp [readS]]
  exact ⟨K, c, V, d, rfl, h1, h2, h3, h4, h5, h6, h7, Grew.of_chg1 h8 hat⟩
 ·refine (C_readDelete w hR (p := (rBlock (l, e)).1) (l1 := (rBlock (l, e)).2.1) (e1 := (rBlock (l, e)).2.2) ⟨rfl⟩).mono ?_
  rintro v w' ⟨K, c, rfl, h1, h2, h3, h7, h8⟩
  rw [show readS 2 (l, e) = ((rBlock (l, e)).1, [], z32, (rBlock (l, e)).2) from by simp [readS]]
  exact ⟨K, c, none, 0, rfl, h1, h2, h3, RdT.nil_, Nat.le_refl _, Nat.zero_le _, h7, Grew.of_chg1 h8 hat⟩
 all_goals
  refine (C_readWho w hR (u := digK (l, e)) (l1 := (rDigest (l, e)).2.1) (e1 := (rDigest (l, e)).2.2) ⟨rfl⟩).mono ?_
  rintro v w' ⟨rfl, h7, h8⟩
  rw [who _ (by decide) (by decide)]
  exact ⟨none, 0, none, 0, rfl, RdT.nil_, Nat.le_refl _, Nat.zero_le _, RdT.nil_, Nat.le_refl _, Nat.zero_le _, h7, Grew.of_chg1 h8 hat⟩
end Go.Proofs.YtahkeoegbjopfaaGreat
/-
  Walks of package ops: ops read from bytes.
-/
namespace Go.Proofs.YtahkeoegbjopfaaGreat
set_option maxRecDepth 100000
open Go.RowKit
def readL : Nat → RS → Option (List Opn × RS)
 | 0, s => some ([], s)
 | n + 1, s =>
  if 1 ≤ (rWord 1 s).1 ∧ (rWord 1 s).1 ≤ 6 then
   match readS ((rWord 1 s).1 : Nat) (rWord 1 s).2 with
   | (p, q, u, s') =>
    if s'.2 = 0 ∧ goodS ((rWord 1 s).1 : Nat) p.length q.length u = true then (readL n s').map fun r => (((((rWord 1 s).1 : Nat) : Int), p, q, u) :: r.1, r.2) else none
  else none
def readO (b : By) : List Opn × Nat :=
 if 8 < (rWord 1 (b, 0)).1 then ([], 4)
 else match readL (rWord 1 (b, 0)).1 (rWord 1 (b, 0)).2 with
  | none => ([], 4)
  | some (L, s) => if rEnd s = 0 then (L, 0) else ([], 4)
theorem rWord_255 (s : RS) : (rWord 1 s).1 ≤ 255 := by
 have h1 := leVal_lt (rTake (clampN 1) s).1
 have h2 : (rTake (clampN 1) s).1.length ≤ 1 := by
  unfold rTake; (repeat' split) <;> simp [clampN, List.length_take] <;> omega
 have h3 := Nat.pow_le_pow_right (show 0 < 256 by omega) h2
 show leVal _ ≤ 255
 omega
theorem rTake_le (n : Nat) (s : RS) : (rTake n s).1.length ≤ s.1.length ∧ (rTake n s).2.1.length ≤ s.1.length := by
 unfold rTake
 (repeat' split) <;> simp [List.length_take, List.length_drop] <;> omega
theorem rNumber_rest (s : RS) : (rNumber s).2.1.length ≤ s.1.length := by
 obtain ⟨l, e⟩ := s
 by_cases he : e = 0
 ·subst he
  rcases l with _ | ⟨c, t⟩
  ·rw [rNumber_nil]; exact Nat.le_refl _
  ·by_cases h1 : t.length + 1 < lead c
   ·rw [rNumber_more h1]; exact Nat.le_refl _
   ·by_cases h2 : room (beVal (c.toNat % 2 ^ (8 - lead c)) (t.take (lead c - 1))) = lead c
    ·rw [rNumber_ok h1 h2]
     simp only [List.length_drop, List.length_cons]
     omega
    ·rw [rNumber_bad h1 h2]; exact Nat.le_refl _
 ·rw [rNumber_err he]; exact Nat.le_refl _
theorem rBlock_le (s : RS) : (rBlock s).1.length ≤ s.1.length ∧ (rBlock s).2.1.length ≤ s.1.length := by
 have h := rNumber_rest s
 unfold rBlock
 (repeat' split) <;> simp [List.length_take, List.length_drop] <;> omega
theorem rWord_rest (z : Int) (s : RS) : (rWord z s).2.1.length ≤ s.1.length := (rTake_le _ s).2
theorem readS_le (k : Int) (s : RS) : (readS k s).1.length ≤ s.1.length ∧ (readS k s).2.1.length ≤ s.1.length ∧ (readS k s).2.2.2.1.length ≤ s.1.length := by
 have h1 := rBlock_le s
 have h2 := rBlock_le (rBlock s).2
 have h3 := rTake_le 32 s
 unfold readS
 (repeat' split)
 ·exact ⟨h1.1, by dsimp only; omega, by dsimp only; omega⟩
 ·exact ⟨h1.1, by simp, h1.2⟩
 ·exact ⟨by simp, by simp, h3.2⟩
section
variable {fn : Func} {F : Ending → World → Prop} {N : Nat} {ks : List K} {ops : Array Oper} {tg : Tags} {l : List Oper} {fr : Fr} {w : World} {ty t' : TypeId} {pos : String} {aft : Array Edge} {gd : Option (Nat × Bool)} {d0 g : Nat} {x y : Operand} {k k' : Int} {K V : Option Addr} {n c m d : Nat} {u : Ky}
theorem wl_mkO {k1 k2 : IntKind} {C : Int} (n : Nat) (hx : fr.ev x = some (.int k1 0)) (hy : fr.ev y = some (.int k2 C)) (hC : C = (n : Int)) (hn : n ≤ 1000000)
  (hk : ∀ A w', OwnO w' w.heap.size w'.heap.size A n [] → Below w.heap.size w w' → WL Tryz.prog fn F N ks ops tg.tail l ((d0, .slice A 0 n) :: fr) w')
  (ht : tg.loud = true := by rfl) (hg : onG ops fr gd = true := by rfl) (hd : Nat.blt d0 N = true := by rfl) : WL Tryz.prog fn F N ks ops tg (⟨some d0, .makeSlice 35 x y, ty, pos, aft, gd⟩ :: l) fr w := by
 subst hC
 obtain ⟨i, hi, hz, hs, hb⟩ := info_parts Tryz.rowO.hi
 obtain ⟨w', hrun, r1, r2⟩ := run_make_own (P := Tryz.prog) w w.heap.size 35 54 i _ 35 Tryz.rowO.ht hi hz hs k1 k2 n (by rw [hb]; omega) (by simp only [maxLen]; omega) (Nat.le_refl _)
 have hbl : Below w.heap.size w w' := (Below.refl _ _).grown r2 (Nat.le_refl _) (by simp)
 have ho : OwnO w' w.heap.size w'.heap.size (some ⟨w.heap.size, 0, none⟩) n [] := ⟨[], ⟨r1, fun b hb => (World.ownsRow.lt r1 b (by rw [blk_own]; exact hb)).2⟩, fun i h => absurd h (Nat.not_lt_zero _)⟩
 exact wl_v (fun a ha o ho _ => by simp [execOp, ho, ha.ev hx, ha.ev hy, hrun]) (hk _ w' ho hbl) ht hg hd (.inr (grown_of_below hbl _))
theorem wl_stKind (hx : fr.ev x = some (.pointer (some ⟨g, 0 + 0, none⟩))) (hB : Blk w g t' (opC k' K n c V m d u)) (hy : fr.ev y = some (.int .i64 k))
  (hk : ∀ w', Blk w' g t' (opC k K n c V m d u) → Grew w w' t' (some g) → w'.heap.size = w.heap.size → WL Tryz.prog fn F N ks ops tg.tail l fr w') (ht : tg.loud = true := by rfl) (hg : onG ops fr gd = true := by rfl) (hq : tg.calm = false ∨ tg.rw.may (some g) := by exact .inl rfl) :
  WL Tryz.prog fn F N ks ops tg (⟨none, .store 3 x y, ty, pos, aft, gd⟩ :: l) fr w :=
 wl_storeg1 Tryz.sizeOf3 hx hy rfl hB (by rw [opC_length]; omega) hk ht hg hq
end
theorem C_opsRead {A : Option Addr} {b : By} {r : List Opn × Nat} {n c : Nat} (w : World) (hA : Rd w A b) (hr : readO b = r) (hn : n = b.length) (hl : b.length ≤ 4000000) :
  CallsR Tryz.prog 13 [.slice A n c] w fun v w' => ∃ A' c', v = .tuple #[.slice A' r.1.length c', .int .i64 (r.2 : Int)] ∧ OwnO w' w.heap.size w'.heap.size A' c' r.1 ∧ Below w.heap.size w w' := by
 subst hn
 obtain ⟨⟨n0, l0, e0⟩, hw0⟩ : ∃ s, rWord 1 (b, 0) = s := ⟨_, rfl⟩
 have hle := rWord_255 (b, 0)
 unfold readO at hr
 rw [hw0] at hr hle
 dsimp only at hr hle
 have e1 : WordR 1 b 0 n0 l0 e0 := ⟨hw0⟩
 have hl0 : l0.length ≤ 4000000 := by
  have := rWord_rest 1 (b, 0)
  rw [hw0] at this
  exact Nat.le_trans this hl
 refine callsR Tryz.func13 rfl rfl (by kernel_rfl) rfl ?_
 have hw := Below.refl w.heap.size w
 refine rk_seq ?_
 refine rk_region ?_
 refine wl_p (fun _ => o_assign rfl) ?_
 refine wl_p (fun _ => o_assign rfl) ?_
 refine wl_nil ?_
 refine rk_seq ?_
 refine rk_region ?_
 refine wl_p (fun _ => o_move rfl) ?_
 refine wl_call rfl (C_rRead _ hA rfl (by omega)) ?_
 rintro v12 w12 ⟨g12, ⟨rfl, ⟨i12, ⟨i12_1, ⟨f12, b12⟩⟩⟩⟩⟩
 have s12 := b12.size
 replace hw := hw.trans (b12.mono hw.size)
 refine wl_p (fun _ => o_assign rfl) ?_
 refine wl_nil ?_
 refine rk_seq ?_
 refine rk_region ?_
 refine wl_p (fun _ => o_move rfl) ?_
 refine wl_call rfl (C_rWord _ f12 e1) ?_
 rintro v14 w14 ⟨rfl, ⟨f14, ⟨g14, g14_1⟩⟩⟩
 have s14 := g14.size
 replace hw := hw.trans (below_of_grownBy g14.g hw.size (by omega))
 clear f12
 refine wl_p (fun _ => o_convi64 (src := 43) (dst := 3) Tryz.underlying43 Tryz.underlying3 rfl (by omega) (by omega)) ?_
 refine wl_p (fun _ => o_assign rfl) ?_
 refine wl_nil ?_
 refine rk_seq ?_
 refine rk_seq ?_
 refine rk_region ?_
 refine wl_p (fun _ => o_move rfl) ?_
 refine wl_p (fun _ => o_gt rfl rfl) ?_
 refine wl_nil ?_
 refine rk_if rfl (fun h17 => ?_) (fun h17 => ?_)
 ·rw [if_pos (by omega)] at hr
  subst hr
  refine rk_seq ?_
  refine rk_region ?_
  refine wl_p (fun _ => o_assign rfl) ?_
  refine wl_p (fun _ => o_assign rfl) ?_
  refine wl_nil ?_
  refine ret2 rfl rfl rfl ?_
  exact ⟨_, _, rfl, OwnO.nil_, hw⟩
 rw [if_neg (by omega)] at hr
 refine rk_skip ?_
 refine rk_seq ?_
 refine rk_region ?_
 refine wl_p (fun _ => o_move rfl) ?_
 refine wl_mkO (n0) rfl rfl rfl (by omega) ?_
 rintro A19 w19 f19 b19
 have qf19 := f19.cap
 have s19 := b19.size
 replace hw := hw.trans (b19.mono hw.size)
 replace f14 := f14.u b19
 refine wl_p (fun _ => o_assign rfl) ?_
 refine wl_nil ?_
 refine rk_seq ?_
 refine rk_seq ?_
 refine rk_region ?_
 refine wl_p (fun _ => o_move rfl) ?_
 refine wl_p (fun _ => o_move rfl) ?_
 refine wl_nil ?_
 refine rk_block ?_
 refine rk_joinf (fun fb fr w3 => ∃ A' c' L l e, fr = [(6, .slice A' L.length c')] ++ fb.drop 3 ∧ readL n0 (l0, e0) = some (L, (l, e)) ∧ OwnO w3 w.heap.size w3.heap.size A' c' L ∧ Rdr w3 g12 (l, e) ∧ w19.heap.size ≤ w3.heap.size ∧ Below w.heap.size w w3) ?_ (fun ks hj => ?_)
 rotate_left
 ·refine rk_loopf (fun fb m fr w3 => ∃ (i : Nat) (v : Int) (A' : Option Addr) (c' : Nat) (L : List Opn) (l : By) (e : Nat), fr = [(21, .int .i64 v), (20, .int .i64 (n0 : Int)), (6, .slice A' L.length c')] ++ fb.drop 3 ∧ v = i ∧ i ≤ n0 ∧ m = n0 - i ∧ L.length = i ∧ readL n0 (l0, e0) = (readL (n0 - i) (l, e)).map (fun r => (L ++ r.1, r.2)) ∧ l.length ≤ 4000000 ∧ OwnO w3 w.heap.size w3.heap.size A' c' L ∧ Rdr w3 g12 (l, e) ∧ w19.heap.size ≤ w3.heap.size ∧ Below w.heap.size w w3) (n := n0) (Fr.le_of (by kernel_rfl) (by kernel_rfl) (by repeat' constructor)) ⟨0, _, A19, _, [], l0, e0, rfl, rfl, by omega, rfl, rfl, by simp, hl0, OwnS.base f19 (by omega) (Nat.le_refl _), f14, Nat.le_refl _, hw⟩ ?_
  clear hw f19 f14
  rintro m fr w3 ⟨i, v, A', c', L, l, e, rfl, rfl, hi, rfl, hLl, hrd, hll, fo, f14, hsz, hw⟩
  have shw := hw.size
  first | refine rk_frame (by simp only [List.cons_append, List.nil_append, List.drop_succ_cons, List.drop_zero]; rfl) ?_ | refine wl_frame (by simp only [List.cons_append, List.nil_append, List.drop_succ_cons, List.drop_zero]; rfl) ?_
  refine rk_seq ?_
  refine rk_region ?_
  refine wl_p (fun _ => o_lt rfl rfl) ?_
  refine wl_nil ?_
  refine rk_seq ?_
  refine rk_if rfl (fun h22 => ?_) (fun h22 => ?_)
  ·have hin : i < n0 := by omega
   obtain ⟨⟨k1, l1, e1⟩, hk1⟩ : ∃ s, rWord 1 (l, e) = s := ⟨_, rfl⟩
   have e2 : WordR 1 l e k1 l1 e1 := ⟨hk1⟩
   have hk1le := rWord_255 (l, e)
   rw [hk1] at hk1le
   dsimp only at hk1le
   rw [show n0 - i = (n0 - i - 1) + 1 by omega, readL, hk1] at hrd
   dsimp only at hrd
   by_cases hk : 1 ≤ k1 ∧ k1 ≤ 6
   ·obtain ⟨hka, hkb⟩ := hk
    rw [if_pos ⟨hka, hkb⟩] at hrd
    obtain ⟨⟨p, q, u, l2, e3⟩, hrs⟩ : ∃ s, readS (k1 : Nat) (l1, e1) = s := ⟨_, rfl⟩
    rw [hrs] at hrd
    dsimp only at hrd
    have hl1 : l1.length ≤ 4000000 := by
     have := rWord_rest 1 (l, e)
     rw [hk1] at this
     exact Nat.le_trans this hll
    obtain ⟨n1, n2, n3⟩ := readS_le (k1 : Nat) (l1, e1)
    rw [hrs] at n1 n2 n3
    dsimp only at n1 n2 n3
    refine rk_skip ?_
    refine rk_seq ?_
    refine rk_block ?_
    refine rk_seq ?_
    refine rk_region ?_
    refine wl_p (fun _ => o_move rfl) ?_
    refine wl_call rfl (C_rWord _ f14 e2) ?_
    rintro v24 w24 ⟨rfl, ⟨f24, ⟨g24, g24_1⟩⟩⟩
    have s24 := g24.size
    replace hw := hw.trans (below_of_grownBy g24.g hw.size (by omega))
    replace fo := fo.y g24 (by decide)
    clear f14
    refine wl_p (fun _ => o_convi64 (src := 43) (dst := 3) Tryz.underlying43 Tryz.underlying3 rfl (by omega) (by omega)) ?_
    refine wl_p (fun _ => o_assign rfl) ?_
    refine wl_nil ?_
    refine rk_seq ?_
    refine rk_region ?_
    refine wl_p (fun _ => o_move rfl) ?_
    refine wl_call rfl (C_formOk _ (by omega) (by omega)) ?_
    rintro v28 w28 ⟨gf28, ⟨pf28, ⟨rf28, ⟨df28, ⟨rfl, ⟨i28, b28⟩⟩⟩⟩⟩⟩
    have s28 := b28.size
    replace hw := hw.trans (b28.mono hw.size)
    replace fo := fo.u b28
    replace f24 := f24.u b28
    refine wl_p (fun _ => o_move rfl) ?_
    refine wl_p (fun _ => o_ext20 rfl) ?_
    refine wl_p (fun _ => o_ext21 rfl) ?_
    refine wl_allocg [_, _, _, _] Tryz.zeroValue89 (by rfl) ?_
    rintro g8 w8 f8 b8 i8 i8_1
    have s8 := b8.size
    replace hw := hw.trans (b8.mono hw.size)
    replace f24 := f24.u b8
    replace fo := fo.u b8
    refine wl_storega Tryz.sizeOf89 rfl rfl (by rfl) (oneCell_of (by rfl)) f8 (by rfl) ?_
    rintro w_1 f g e_1
    have s := g.size
    replace hw := hw.trans (below_of_grownBy g.g hw.size (by omega))
    replace fo := fo.y g (by decide)
    replace f24 := f24.y g (by decide)
    clear f8
    refine wl_p (fun _ => o_assign rfl) ?_
    refine wl_nil ?_
    refine rk_seq ?_
    refine rk_seq ?_
    refine rk_region ?_
    refine wl_p (fun _ => o_move rfl) ?_
    refine wl_p (fun _ => o_not rfl) ?_
    refine wl_nil ?_
    refine rk_false rfl ?_
    refine rk_skip ?_
    refine rk_seq ?_
    refine rk_region ?_
    refine wl_p (fun _ => o_faddr (s := 89) (i := 2) (off := 2) Tryz.underlying89 rfl Tryz.sizeOf86 rfl rfl rfl) ?_
    refine wl_r (o_loadbg Tryz.isAgg86 rfl f (by rfl)) ?_
    refine wl_p (fun _ => o_move rfl) ?_
    refine wl_callf (xs := [_]) (cs := []) rfl rfl (sh4_read i28 w_1 f24 hrs) ?_
    rintro _ w36 ⟨K36, c36, V36, d36, rfl, p1, p2, p3, p4, p5, p6, f24, g36⟩
    replace f := f.y g36 (by decide)
    replace fo := fo.y g36 (by decide)
    replace hw := hw.trans (g36.below hw.size (fun k hk => by injection hk with hk; omega))
    dsimp only at p1 p2 p4 p5 f24 ⊢
    have shw2 := hw.size
    have s36 := g36.size
    by_cases he : e3 = 0
    ·subst he
     refine wl_allocOp ?_
     rintro g10 w10 f10 b10 i10 i10_1
     have s10 := b10.size
     replace hw := hw.trans (b10.mono hw.size)
     replace f24 := f24.u b10
     replace fo := fo.u b10
     replace f := f.u b10
     replace p4 := p4.u b10
     replace p1 := p1.u b10
     refine wl_stOpB rfl f10 rfl ?_
     rintro w_2 f_1 g_1 e_2
     have s_1 := g_1.size
     replace hw := hw.trans (below_of_grownBy g_1.g hw.size (by omega))
     replace p1 := p1.y g_1 (by decide)
     replace p4 := p4.y g_1 (by decide)
     replace f := f.k g_1.g (ap_some (by omega))
     replace fo := fo.q g_1 (ap_some (by omega)) (by decide)
     replace f24 := f24.y g_1 (by decide)
     clear f10
     refine wl_nil ?_
     refine rk_seq ?_
     refine rk_region ?_
     refine wl_p (fun _ => o_move rfl) ?_
     refine wl_p (fun _ => o_faddr (s := 54) (i := 0) (off := 0) Tryz.underlying54 rfl Tryz.sizeOf3 rfl rfl rfl) ?_
     refine wl_stKind rfl f_1 rfl ?_
     rintro w_3 f_2 g_2 e_3
     have s_2 := g_2.size
     replace hw := hw.trans (below_of_grownBy g_2.g hw.size (by omega))
     replace f24 := f24.y g_2 (by decide)
     replace fo := fo.q g_2 (ap_some (by omega)) (by decide)
     replace f := f.k g_2.g (ap_some (by omega))
     replace p4 := p4.y g_2 (by decide)
     replace p1 := p1.y g_2 (by decide)
     clear f_1
     refine wl_nil ?_
     refine rk_seq ?_
     refine rk_seq ?_
     refine rk_region ?_
     refine wl_p (fun _ => o_move rfl) ?_
     refine wl_call rfl (C_rErr _ f24) ?_
     rintro v40 w40 ⟨rfl, rfl⟩
     refine wl_p (fun _ => o_ne rfl rfl) ?_
     refine wl_p (fun _ => o_move rfl) ?_
     refine wl_p (fun _ => o_faddr (s := 89) (i := 0) (off := 0) Tryz.underlying89 rfl Tryz.sizeOf84 rfl rfl rfl) ?_
     refine wl_r (o_loadbg Tryz.isAgg84 rfl f (by rfl)) ?_
     refine wl_r (o_loadag Tryz.isAgg54 Tryz.sizeOf54 rfl f_2 (opC_length ..)) ?_
     refine wl_know 42 false rfl (decide_eq_false (by omega)) ?_
     refine wl_callf (xs := [_]) (cs := []) rfl rfl (sh4_good i28 w40 (by omega) (by omega)) ?_
     rintro _ w46 ⟨rfl, b46⟩
     have sb46 := b46.size
     replace hw := hw.trans (b46.mono hw.size)
     replace p1 := p1.u b46
     replace p4 := p4.u b46
     replace f := f.u b46
     replace fo := fo.u b46
     replace f24 := f24.u b46
     replace f_2 := f_2.u b46
     cases hgd : goodS k1 p.length q.length u
     ·rw [if_neg (fun h => by rw [hgd] at h; cases h.2)] at hrd
      rw [hrd] at hr
      subst hr
      refine wl_p (fun _ => o_not rfl) ?_
      refine wl_p (fun _ => o_pick_f rfl rfl) ?_
      refine wl_nil ?_
      refine rk_true rfl ?_
      refine rk_seq ?_
      refine rk_region ?_
      refine wl_p (fun _ => o_assign rfl) ?_
      refine wl_p (fun _ => o_assign rfl) ?_
      refine wl_nil ?_
      refine ret2 rfl rfl rfl ?_
      exact ⟨_, _, rfl, OwnO.nil_, hw⟩
     ·rw [if_pos ⟨rfl, hgd⟩, Option.map_map] at hrd
      have hkw : (Lit.int .i64 (k1 : Int)).wf = true := by
       obtain ⟨x1, x2⟩ := goodS_le hgd
       rcases (show k1 = 1 ∨ k1 = 2 ∨ k1 = 3 ∨ k1 = 4 ∨ k1 = 5 ∨ k1 = 6 by omega) with rfl | rfl | rfl | rfl | rfl | rfl <;> rfl
      refine wl_p (fun _ => o_not rfl) ?_
      refine wl_p (fun _ => o_pick_f rfl rfl) ?_
      refine wl_nil ?_
      refine rk_false rfl ?_
      refine rk_skip ?_
      refine rk_region ?_
      refine wl_p (fun _ => o_move rfl) ?_
      refine wl_r (o_loadag Tryz.isAgg54 Tryz.sizeOf54 rfl f_2 (opC_length ..)) ?_
      refine wl_litO1 (by rfl) rfl p1 p4 rfl rfl (by omega) (by omega) (by omega) (by omega) hkw (by rfl) ?_
      rintro A51 w51 f51 b51
      have qf51 := f51.cap
      have s51 := b51.size
      replace hw := hw.trans (b51.mono hw.size)
      replace f_2 := f_2.u b51
      replace f24 := f24.u b51
      replace fo := fo.u b51
      replace f := f.u b51
      replace p4 := p4.u b51
      replace p1 := p1.u b51
      refine wl_appO rfl fo rfl rfl f51.to_ROT (by rfl) (by omega) hw.size ?_
      rintro A52 c52 w52 f52 g52 b52
      have qf52 := f52.cap
      have s52 := g52.size
      replace hw := hw.trans (b52.mono (by omega))
      replace p1 := p1.y g52 (by decide)
      replace p4 := p4.y g52 (by decide)
      replace f := f.y g52 (by decide)
      replace f24 := f24.y g52 (by decide)
      replace f_2 := f_2.k g52.g (fo.ap (by omega))
      replace f51 := f51.q g52 (fo.ap (by omega)) (by decide)
      clear fo
      refine wl_p (fun _ => o_assign rfl) ?_
      refine wl_nil ?_
      refine rk_blk ?_
      refine rk_region ?_
      refine wl_p (fun _ => o_add rfl rfl (by omega) (by omega)) ?_
      refine wl_p (fun _ => o_move rfl) ?_
      refine wl_nil ?_
      exact rk_againf (Fr.le_of (by kernel_rfl) (by kernel_rfl) (by repeat' constructor)) ⟨i + 1, (i : Int) + 1, A52, c52, L ++ [((k1 : Int), p, q, u)], l2, 0, rfl, by omega, by omega, rfl, by simp [hLl], by
       rw [hrd, show n0 - (i + 1) = n0 - i - 1 by omega]
       congr 1
       funext r
       simp, by omega, f52, f24, by omega, hw⟩ (by omega)
    ·rw [if_neg (fun h => he h.1)] at hrd
     rw [hrd] at hr
     subst hr
     refine wl_allocOp ?_
     rintro g10 w10 f10 b10 i10 i10_1
     have s10 := b10.size
     replace hw := hw.trans (b10.mono hw.size)
     replace fo := fo.u b10
     replace f := f.u b10
     replace f24 := f24.u b10
     replace p4 := p4.u b10
     replace p1 := p1.u b10
     refine wl_stOpB rfl f10 rfl ?_
     rintro w_2 f_1 g_1 e_2
     have s_1 := g_1.size
     replace hw := hw.trans (below_of_grownBy g_1.g hw.size (by omega))
     replace p1 := p1.y g_1 (by decide)
     replace p4 := p4.y g_1 (by decide)
     replace f24 := f24.y g_1 (by decide)
     replace f := f.k g_1.g (ap_some (by omega))
     replace fo := fo.q g_1 (ap_some (by omega)) (by decide)
     clear f10
     refine wl_nil ?_
     refine rk_seq ?_
     refine rk_region ?_
     refine wl_p (fun _ => o_move rfl) ?_
     refine wl_p (fun _ => o_faddr (s := 54) (i := 0) (off := 0) Tryz.underlying54 rfl Tryz.sizeOf3 rfl rfl rfl) ?_
     refine wl_stKind rfl f_1 rfl ?_
     rintro w_3 f_2 g_2 e_3
     have s_2 := g_2.size
     replace hw := hw.trans (below_of_grownBy g_2.g hw.size (by omega))
     replace fo := fo.q g_2 (ap_some (by omega)) (by decide)
     replace f := f.k g_2.g (ap_some (by omega))
     replace f24 := f24.y g_2 (by decide)
     replace p4 := p4.y g_2 (by decide)
     replace p1 := p1.y g_2 (by decide)
     clear f_1
     refine wl_nil ?_
     refine rk_seq ?_
     refine rk_seq ?_
     refine rk_region ?_
     refine wl_p (fun _ => o_move rfl) ?_
     refine wl_call rfl (C_rErr _ f24) ?_
     rintro v40 w40 ⟨rfl, rfl⟩
     refine wl_p (fun _ => o_ne rfl rfl) ?_
     refine wl_p (fun _ => o_move rfl) ?_
     refine wl_know 42 true rfl (decide_eq_true (by omega)) ?_
     refine wl_off ?_
     refine wl_off ?_
     refine wl_off ?_
     refine wl_off ?_
     refine wl_off ?_
     refine wl_p (fun _ => o_pick_t rfl rfl) ?_
     refine wl_nil ?_
     refine rk_true rfl ?_
     refine rk_seq ?_
     refine rk_region ?_
     refine wl_p (fun _ => o_assign rfl) ?_
     refine wl_p (fun _ => o_assign rfl) ?_
     refine wl_nil ?_
     refine ret2 rfl rfl rfl ?_
     exact ⟨_, _, rfl, OwnO.nil_, hw⟩
   ·rw [if_neg hk] at hrd
    rw [hrd] at hr
    subst hr
    have hk2 : (k1 : Int) < 1 ∨ 6 < (k1 : Int) := by omega
    refine rk_skip ?_
    refine rk_seq ?_
    refine rk_block ?_
    refine rk_seq ?_
    refine rk_region ?_
    refine wl_p (fun _ => o_move rfl) ?_
    refine wl_call rfl (C_rWord _ f14 e2) ?_
    rintro v24 w24 ⟨rfl, ⟨f24, ⟨g24, g24_1⟩⟩⟩
    have s24 := g24.size
    replace hw := hw.trans (below_of_grownBy g24.g hw.size (by omega))
    replace fo := fo.y g24 (by decide)
    clear f14
    refine wl_p (fun _ => o_convi64 (src := 43) (dst := 3) Tryz.underlying43 Tryz.underlying3 rfl (by omega) (by omega)) ?_
    refine wl_p (fun _ => o_assign rfl) ?_
    refine wl_nil ?_
    refine rk_seq ?_
    refine rk_region ?_
    refine wl_p (fun _ => o_move rfl) ?_
    refine wl_call rfl (C_formBad _ (by omega)) ?_
    rintro v28 w28 ⟨rfl, b28⟩
    have s28 := b28.size
    replace hw := hw.trans (b28.mono hw.size)
    replace fo := fo.u b28
    replace f24 := f24.u b28
    refine wl_p (fun _ => o_move rfl) ?_
    refine wl_p (fun _ => o_ext20 rfl) ?_
    refine wl_p (fun _ => o_ext21 rfl) ?_
    refine wl_allocg [_, _, _, _] Tryz.zeroValue89 (by rfl) ?_
    rintro g8 w8 f8 b8 i8 i8_1
    have s8 := b8.size
    replace hw := hw.trans (b8.mono hw.size)
    replace f24 := f24.u b8
    replace fo := fo.u b8
    refine wl_storega Tryz.sizeOf89 rfl rfl (by rfl) (by decide) f8 (by rfl) ?_
    rintro w_1 f g e_1
    have s := g.size
    replace hw := hw.trans (below_of_grownBy g.g hw.size (by omega))
    replace fo := fo.y g (by decide)
    replace f24 := f24.y g (by decide)
    clear f8
    refine wl_p (fun _ => o_assign rfl) ?_
    refine wl_nil ?_
    refine rk_seq ?_
    refine rk_seq ?_
    refine rk_region ?_
    refine wl_p (fun _ => o_move rfl) ?_
    refine wl_p (fun _ => o_not rfl) ?_
    refine wl_nil ?_
    refine rk_true rfl ?_
    refine rk_seq ?_
    refine rk_region ?_
    refine wl_p (fun _ => o_assign rfl) ?_
    refine wl_p (fun _ => o_assign rfl) ?_
    refine wl_nil ?_
    refine ret2 rfl rfl rfl ?_
    exact ⟨_, _, rfl, OwnO.nil_, hw⟩
  ·refine rk_exit rfl ?_
   have e : i = n0 := by omega
   subst e
   rw [Nat.sub_self, readL] at hrd
   exact rk_tof hj (Fr.le_of (by kernel_rfl) (by kernel_rfl) (by repeat' constructor)) ⟨A', c', L, l, e, rfl, by simpa using hrd, fo, f14, hsz, hw⟩
 clear hw f19 f14
 rintro fr w3 ⟨A', c', L, l, e, rfl, hrd, fo, f14, hsz, hw⟩
 have shw := hw.size
 rw [hrd] at hr
 dsimp only at hr
 first | refine rk_frame (by simp only [List.cons_append, List.nil_append, List.drop_succ_cons, List.drop_zero]; rfl) ?_ | refine wl_frame (by simp only [List.cons_append, List.nil_append, List.drop_succ_cons, List.drop_zero]; rfl) ?_
 by_cases hE : rEnd (l, e) = 0
 ·rw [if_pos hE] at hr
  subst hr
  refine rk_seq ?_
  refine rk_seq ?_
  refine rk_region ?_
  refine wl_p (fun _ => o_move rfl) ?_
  refine wl_call rfl (C_rEnd _ f14) ?_
  rintro v55 w55 ⟨rfl, b55⟩
  have s55 := b55.size
  replace hw := hw.trans (b55.mono hw.size)
  replace f14 := f14.u b55
  replace fo := fo.u b55
  refine wl_p (fun _ => o_ne rfl rfl) ?_
  refine wl_nil ?_
  refine rk_if rfl (fun h56 => absurd h56 (by omega)) (fun h56 => ?_)
  refine rk_skip ?_
  refine rk_seq ?_
  refine rk_region ?_
  refine wl_p (fun _ => o_move rfl) ?_
  refine wl_p (fun _ => o_assign rfl) ?_
  refine wl_p (fun _ => o_assign rfl) ?_
  refine wl_nil ?_
  refine ret2 rfl rfl rfl ?_
  exact ⟨A', c', rfl, fo.base (Nat.le_refl _) (by omega), hw⟩
 ·rw [if_neg hE] at hr
  subst hr
  refine rk_seq ?_
  refine rk_seq ?_
  refine rk_region ?_
  refine wl_p (fun _ => o_move rfl) ?_
  refine wl_call rfl (C_rEnd _ f14) ?_
  rintro v55 w55 ⟨rfl, b55⟩
  have s55 := b55.size
  replace hw := hw.trans (b55.mono hw.size)
  replace f14 := f14.u b55
  replace fo := fo.u b55
  refine wl_p (fun _ => o_ne rfl rfl) ?_
  refine wl_nil ?_
  refine rk_if rfl (fun h56 => ?_) (fun h56 => h56.elim (by omega))
  refine rk_seq ?_
  refine rk_region ?_
  refine wl_p (fun _ => o_assign rfl) ?_
  refine wl_p (fun _ => o_assign rfl) ?_
  refine wl_nil ?_
  refine ret2 rfl rfl rfl ?_
  exact ⟨_, _, rfl, OwnO.nil_, hw⟩
end Go.Proofs.YtahkeoegbjopfaaGreat
/-
  Walks of package ops: keys compared; whether ops and states are the same.
-/
namespace Go.Proofs.YtahkeoegbjopfaaGreat
set_option maxRecDepth 100000
open Go.RowKit
section
variable {N : Nat} {fr : Fr} {w : World} {ty t' : TypeId} {x : Operand} {g : Nat} {u : Ky}
theorem o_ldKyB (hx : fr.ev x = some (.pointer (some ⟨g, 0, none⟩))) (hB : Blk w g t' (B8 u.1)) : OpV Tryz.prog N fr w (.load 42 x) ty (.agg (B8 u.1).toArray) w :=
 o_loadCut Tryz.isAgg42 Tryz.sizeOf42 hx hB (by rw [List.drop_zero, List.take_of_length_le (by rw [B8_length, u.2]; omega)]) (by rw [B8_length, u.2])
end
theorem C_opsCompare {u v : Ky} (w : World) : CallsR Tryz.prog 88 [.agg (B8 u.1).toArray, .agg (B8 v.1).toArray] w fun x w' => x = .int .i64 (cmpL u.1 v.1) ∧ Below w.heap.size w w' := by
 refine callsR Tryz.func88 rfl rfl (by kernel_rfl) rfl ?_
 have hw := Below.refl w.heap.size w
 refine rk_seq ?_
 refine rk_region ?_
 refine wl_boxg _ rfl (by rfl) ?_
 rintro g2 w2 f2 b2 i2 i2_1
 have s2 := b2.size
 replace hw := hw.trans (b2.mono hw.size)
 refine wl_boxg _ rfl (by rfl) ?_
 rintro g3 w3 f3 b3 i3 i3_1
 have s3 := b3.size
 replace hw := hw.trans (b3.mono hw.size)
 replace f2 := f2.u b3
 refine wl_p (fun _ => o_assign rfl) ?_
 refine wl_nil ?_
 refine rk_seq ?_
 refine rk_draw (id := 1) (none) [0, 0, 3, 7] [0, 0, 3, 7] 4 0 [(.p, 0), (.p, 1), (.l, 2), (.p, 3)] (by kernel_rfl) (by kernel_rfl) (by kernel_rfl) (by kernel_rfl) (by kernel_rfl) ?_
 replace hw := hw.drew
 replace f2 := f2.d
 replace f3 := f3.d
 refine wl_p (fun _ => o_slice_arr (t := 42) Tryz.underlying42 Tryz.sizeOf5 rfl) ?_
 refine wl_p (fun _ => o_slice_arr (t := 42) Tryz.underlying42 Tryz.sizeOf5 rfl) ?_
 refine wl_call rfl (C_bCompare _ f2.rdB.r f3.rdB.r u.2.symm v.2.symm) ?_
 rintro _ _ ⟨rfl, rfl⟩
 refine wl_p (fun _ => o_assign rfl) ?_
 refine wl_nild ?_
 refine ret1 rfl rfl ?_
 exact ⟨rfl, hw⟩
def IncK (L : List Ky) : Prop := ∀ i (h : i < L.length), 0 < i → cmpL L[i - 1].1 L[i].1 < 0
instance (L : List Ky) : Decidable (IncK L) := by unfold IncK; infer_instance
theorem C_increasing {A : Option Addr} {L : List Ky} {n c : Nat} (w : World) (hA : RKs w A L) (hn : n = L.length) (hl : L.length ≤ 4000000) :
  CallsR Tryz.prog 46 [.slice A n c] w fun v w' => v = .bool (decide (IncK L)) ∧ Below w.heap.size w w' := by
 subst hn
 refine callsR Tryz.func46 rfl rfl (by kernel_rfl) rfl ?_
 have hw := Below.refl w.heap.size w
 refine rk_seq ?_
 refine rk_region ?_
 refine wl_p (fun _ => o_assign rfl) ?_
 refine wl_nil ?_
 refine rk_seq ?_
 refine rk_seq ?_
 refine rk_region ?_
 refine wl_p (fun _ => o_assign rfl) ?_
 refine wl_nil ?_
 refine rk_block ?_
 refine rk_joinf (fun fb fr w2 => fr = [] ++ fb.drop 1 ∧ IncK L ∧ Below w.heap.size w w2) ?_ (fun ks hj => ?_)
 rotate_left
 ·refine rk_loopf (fun fb m fr w2 => ∃ (i : Nat) (v : Int), fr = [(3, .int .i64 v)] ++ fb.drop 1 ∧ v = (i : Int) + 1 ∧ i ≤ L.length ∧ m = L.length - i ∧ (∀ j (h : j < L.length), j ≤ i → 0 < j → cmpL L[j - 1].1 L[j].1 < 0) ∧ Below w.heap.size w w2) (n := L.length) (Fr.le_of (by kernel_rfl) (by kernel_rfl) (by repeat' constructor)) ⟨0, _, rfl, rfl, by omega, rfl, fun j h h1 h2 => absurd h2 (by omega), hw⟩ ?_
  clear hw
  rintro m fr w2 ⟨i, v, rfl, rfl, hi, rfl, hok, hw⟩
  have shw := hw.size
  first | refine rk_frame (by simp only [List.cons_append, List.nil_append, List.drop_succ_cons, List.drop_zero]; rfl) ?_ | refine wl_frame (by simp only [List.cons_append, List.nil_append, List.drop_succ_cons, List.drop_zero]; rfl) ?_
  refine rk_seq ?_
  refine rk_seq ?_
  refine rk_region ?_
  refine wl_p (fun _ => o_move rfl) ?_
  refine wl_p (fun _ => o_move rfl) ?_
  refine wl_p (fun _ => o_len (t := 29) Tryz.underlying29 rfl) ?_
  refine wl_p (fun _ => o_lt rfl rfl) ?_
  refine wl_nil ?_
  refine rk_if rfl (fun h7 => ?_) (fun h7 => ?_)
  ·have hil : i + 1 < L.length := by omega
   refine rk_skip ?_
   refine rk_seq ?_
   refine rk_block ?_
   refine rk_seq ?_
   refine rk_draw (id := 4) (none) [0, 0, 2, 5, 8, 0, 0, 96, 128, 272, 512] [0, 0, 2, 7, 15, 0, 0, 96, 224, 511, 1023] 512 0 [(.p, 0), (.p, 1), (.p, 2), (.p, 3), (.r, 4), (.p, 5), (.p, 6), (.p, 7), (.r, 8), (.l, 9), (.p, 10)] (by kernel_rfl) (by kernel_rfl) (by kernel_rfl) (by kernel_rfl) (by kernel_rfl) ?_
   replace hw := hw.drew
   refine wl_p (fun _ => o_move rfl) ?_
   refine wl_p (fun _ => o_move rfl) ?_
   refine wl_p (fun _ => o_sub rfl rfl (by omega) (by omega)) ?_
   refine wl_p (fun _ => (o_iaddrA (i + 1 - 1) Tryz.underlying29 Tryz.sizeOf42 rfl rfl (by omega) (hA.some_ (by omega)) (by omega))) ?_
   refine wl_r (o_ldKs rfl hA hw (by omega)) ?_
   refine wl_p (fun _ => o_move rfl) ?_
   refine wl_p (fun _ => o_move rfl) ?_
   refine wl_p (fun _ => (o_iaddrA (i + 1) Tryz.underlying29 Tryz.sizeOf42 rfl rfl (by omega) (hA.some_ (by omega)) (by omega))) ?_
   refine wl_r (o_ldKs rfl hA hw (by omega)) ?_
   refine wl_call rfl (C_opsCompare _) ?_
   rintro v19 w19 ⟨rfl, b19⟩
   simp only [drew_size] at b19
   have s19 := b19.size
   simp only [drew_size] at s19
   replace hw := hw.trans (b19.mono hw.size)
   refine wl_p (fun _ => o_ge rfl rfl) ?_
   refine wl_nild ?_
   refine rk_if rfl (fun h20 => ?_) (fun h20 => ?_)
   ·refine rk_seq ?_
    refine rk_region ?_
    refine wl_p (fun _ => o_assign rfl) ?_
    refine wl_nil ?_
    refine ret1 rfl rfl ?_
    exact ⟨by rw [decide_eq_false (fun h => absurd (h (i + 1) hil (by omega)) (by omega))], hw⟩
   ·refine rk_skip ?_
    refine rk_blk ?_
    refine rk_region ?_
    refine wl_p (fun _ => o_move rfl) ?_
    refine wl_p (fun _ => o_add rfl rfl (by omega) (by omega)) ?_
    refine wl_p (fun _ => o_assign rfl) ?_
    refine wl_nil ?_
    exact rk_againf (Fr.le_of (by kernel_rfl) (by kernel_rfl) (by repeat' constructor)) ⟨i + 1, (i : Int) + 1 + 1, rfl, by omega, by omega, rfl, fun j h h1 h2 => by
     rcases Nat.lt_or_ge i j with h3 | h3
     ·obtain rfl : j = i + 1 := by omega
      omega
     ·exact hok j h h3 h2, hw⟩ (by omega)
  ·refine rk_exit rfl ?_
   exact rk_tof hj (Fr.le_of (by kernel_rfl) (by kernel_rfl) (by repeat' constructor)) ⟨rfl, fun j h h0 => hok j h (by omega) h0, hw⟩
 clear hw
 rintro fr w2 ⟨rfl, hI, hw⟩
 first | refine rk_frame (by simp only [List.cons_append, List.nil_append, List.drop_succ_cons, List.drop_zero]; rfl) ?_ | refine wl_frame (by simp only [List.cons_append, List.nil_append, List.drop_succ_cons, List.drop_zero]; rfl) ?_
 refine rk_seq ?_
 refine rk_region ?_
 refine wl_p (fun _ => o_assign rfl) ?_
 refine wl_nil ?_
 refine ret1 rfl rfl ?_
 exact ⟨by rw [decide_eq_true hI], hw⟩
theorem C_indexK {A : Option Addr} {L : List Ky} {u : Ky} {n c : Nat} (w : World) (hA : RKs w A L) (hn : n = L.length) (hl : L.length ≤ 4000000) :
  CallsR Tryz.prog 101 [.slice A n c, .agg (B8 u.1).toArray] w fun v w' => ∃ z : Int, v = .int .i64 z ∧ (0 ≤ z ↔ u ∈ L) ∧ Below w.heap.size w w' := by
 subst hn
 refine callsR Tryz.func101 rfl rfl (by kernel_rfl) rfl ?_
 have hw := Below.refl w.heap.size w
 refine rk_seq ?_
 refine rk_region ?_
 refine wl_boxg _ rfl (by rfl) ?_
 rintro g3 w3 f3 b3 i3 i3_1
 have s3 := b3.size
 replace hw := hw.trans (b3.mono hw.size)
 refine wl_p (fun _ => o_assign rfl) ?_
 refine wl_nil ?_
 refine rk_seq ?_
 refine rk_seq ?_
 refine rk_region ?_
 refine wl_p (fun _ => o_move rfl) ?_
 refine wl_p (fun _ => o_len (t := 29) Tryz.underlying29 rfl) ?_
 refine wl_p (fun _ => o_move rfl) ?_
 refine wl_nil ?_
 refine rk_block ?_
 refine rk_joinf (fun fb fr w4 => fr = [] ++ fb.drop 1 ∧ u ∉ L ∧ Below w.heap.size w w4) ?_ (fun ks hj => ?_)
 rotate_left
 ·refine rk_loopf (fun fb m fr w4 => ∃ (i : Nat) (v : Int), fr = [(8, .int .i64 v)] ++ fb.drop 1 ∧ v = i ∧ i ≤ L.length ∧ m = L.length - i ∧ u ∉ L.take i ∧ Blk w4 g3 42 (B8 u.1) ∧ w3.heap.size ≤ w4.heap.size ∧ Below w.heap.size w w4) (n := L.length) (Fr.le_of (by kernel_rfl) (by kernel_rfl) (by repeat' constructor)) ⟨0, _, rfl, rfl, by omega, rfl, by simp, f3, Nat.le_refl _, hw⟩ ?_
  clear hw f3
  rintro m fr w4 ⟨i, v, rfl, rfl, hi, rfl, hno, f3, hsz, hw⟩
  have shw := hw.size
  first | refine rk_frame (by simp only [List.cons_append, List.nil_append, List.drop_succ_cons, List.drop_zero]; rfl) ?_ | refine wl_frame (by simp only [List.cons_append, List.nil_append, List.drop_succ_cons, List.drop_zero]; rfl) ?_
  refine rk_seq ?_
  refine rk_region ?_
  refine wl_p (fun _ => o_lt rfl rfl) ?_
  refine wl_nil ?_
  refine rk_seq ?_
  refine rk_if rfl (fun h9 => ?_) (fun h9 => ?_)
  ·have hil : i < L.length := by omega
   refine rk_skip ?_
   refine rk_seq ?_
   refine rk_block ?_
   refine rk_seq ?_
   refine rk_region ?_
   refine wl_p (fun _ => o_move rfl) ?_
   refine wl_p (fun _ => o_assign rfl) ?_
   refine wl_nil ?_
   refine rk_seq ?_
   refine rk_draw (id := 4) (none) [0, 0, 0, 6, 8, 17] [0, 0, 0, 6, 14, 31] 0 0 [(.r, 0), (.p, 1), (.p, 2), (.p, 3), (.r, 4), (.p, 5)] (by kernel_rfl) (by kernel_rfl) (by kernel_rfl) (by kernel_rfl) (by kernel_rfl) ?_
   replace hw := hw.drew
   replace f3 := f3.d
   refine wl_r (o_ldKyB rfl f3) ?_
   refine wl_p (fun _ => o_move rfl) ?_
   refine wl_p (fun _ => o_move rfl) ?_
   refine wl_p (fun _ => (o_iaddrA (i) Tryz.underlying29 Tryz.sizeOf42 rfl rfl rfl (hA.some_ (by omega)) (by omega))) ?_
   refine wl_r (o_ldKs rfl hA hw (by omega)) ?_
   refine wl_p (fun _ => (o_eqKy rfl rfl)) ?_
   refine wl_nild ?_
   refine rk_if rfl (fun h16 => ?_) (fun h16 => ?_)
   ·refine rk_seq ?_
    refine rk_region ?_
    refine wl_p (fun _ => o_move rfl) ?_
    refine wl_p (fun _ => o_assign rfl) ?_
    refine wl_nil ?_
    refine ret1 rfl rfl ?_
    exact ⟨_, rfl, ⟨fun _ => h16 ▸ List.getElem_mem hil, fun _ => by omega⟩, hw⟩
   ·refine rk_skip ?_
    refine rk_blk ?_
    refine rk_region ?_
    refine wl_p (fun _ => o_add rfl rfl (by omega) (by omega)) ?_
    refine wl_p (fun _ => o_move rfl) ?_
    refine wl_nil ?_
    exact rk_againf (Fr.le_of (by kernel_rfl) (by kernel_rfl) (by repeat' constructor)) ⟨i + 1, (i : Int) + 1, rfl, by omega, by omega, rfl, by
     rw [List.take_succ_eq_append_getElem hil, List.mem_append, List.mem_singleton]
     exact fun h => h.elim hno h16, f3, hsz, hw⟩ (by omega)
  ·refine rk_exit rfl ?_
   exact rk_tof hj (Fr.le_of (by kernel_rfl) (by kernel_rfl) (by repeat' constructor)) ⟨rfl, by rwa [List.take_of_length_le (by omega)] at hno, hw⟩
 clear hw f3
 rintro fr w4 ⟨rfl, hno, hw⟩
 first | refine rk_frame (by simp only [List.cons_append, List.nil_append, List.drop_succ_cons, List.drop_zero]; rfl) ?_ | refine wl_frame (by simp only [List.cons_append, List.nil_append, List.drop_succ_cons, List.drop_zero]; rfl) ?_
 refine rk_seq ?_
 refine rk_region ?_
 refine wl_p (fun _ => o_assign rfl) ?_
 refine wl_nil ?_
 refine ret1 rfl rfl ?_
 exact ⟨_, rfl, ⟨fun h => by omega, fun h => absurd h hno⟩, hw⟩
theorem C_containsK {A : Option Addr} {L : List Ky} {u : Ky} {n c : Nat} (w : World) (hA : RKs w A L) (hn : n = L.length) (hl : L.length ≤ 4000000) :
  CallsR Tryz.prog 53 [.slice A n c, .agg (B8 u.1).toArray] w fun v w' => v = .bool (decide (u ∈ L)) ∧ Below w.heap.size w w' := by
 subst hn
 refine callsR Tryz.func53 rfl rfl (by kernel_rfl) rfl ?_
 have hw := Below.refl w.heap.size w
 refine rk_seq ?_
 refine rk_region ?_
 refine wl_boxg _ rfl (by rfl) ?_
 rintro g3 w3 f3 b3 i3 i3_1
 have s3 := b3.size
 replace hw := hw.trans (b3.mono hw.size)
 refine wl_p (fun _ => o_assign rfl) ?_
 refine wl_nil ?_
 refine rk_seq ?_
 refine rk_region ?_
 refine wl_p (fun _ => o_move rfl) ?_
 refine wl_r (o_ldKyB rfl f3) ?_
 refine wl_call rfl (C_indexK _ (hA.u hw) rfl (by omega)) ?_
 rintro v7 w7 ⟨z7, ⟨rfl, ⟨i7, b7⟩⟩⟩
 have s7 := b7.size
 replace hw := hw.trans (b7.mono hw.size)
 replace f3 := f3.u b7
 refine wl_p (fun _ => o_ge rfl rfl) ?_
 refine wl_p (fun _ => o_assign rfl) ?_
 refine wl_nil ?_
 refine ret1 rfl rfl ?_
 exact ⟨by rw [decide_eq_decide.2 i7], hw⟩
theorem C_member {A : Option Addr} {L : List Ky} {u : Ky} {n c : Nat} (w : World) (hA : RKs w A L) (hn : n = L.length) (hl : L.length ≤ 4000000) :
  CallsR Tryz.prog 26 [.slice A n c, .agg (B8 u.1).toArray] w fun v w' => v = .bool (decide (u ∈ L)) ∧ Below w.heap.size w w' := by
 subst hn
 refine callsR Tryz.func26 rfl rfl (by kernel_rfl) rfl ?_
 have hw := Below.refl w.heap.size w
 refine rk_seq ?_
 refine rk_region ?_
 refine wl_boxg _ rfl (by rfl) ?_
 rintro g3 w3 f3 b3 i3 i3_1
 have s3 := b3.size
 replace hw := hw.trans (b3.mono hw.size)
 refine wl_p (fun _ => o_assign rfl) ?_
 refine wl_nil ?_
 refine rk_seq ?_
 refine rk_region ?_
 refine wl_p (fun _ => o_move rfl) ?_
 refine wl_r (o_ldKyB rfl f3) ?_
 refine wl_call rfl (C_containsK _ (hA.u hw) rfl (by omega)) ?_
 rintro v7 w7 ⟨rfl, b7⟩
 have s7 := b7.size
 replace hw := hw.trans (b7.mono hw.size)
 replace f3 := f3.u b7
 refine wl_p (fun _ => o_assign rfl) ?_
 refine wl_nil ?_
 refine ret1 rfl rfl ?_
 exact ⟨rfl, hw⟩
end Go.Proofs.YtahkeoegbjopfaaGreat
/-
  Walks of package ops: whether a state is valid; where a key is among rising ones.
-/
namespace Go.Proofs.YtahkeoegbjopfaaGreat
set_option maxRecDepth 100000
open Go.RowKit
abbrev Stt := List (By × By) × List Ky × List Ky
def OkI (I : List (By × By)) : Prop := ∀ i (h : i < I.length), ((1 ≤ I[i].1.length ∧ I[i].1.length ≤ 16) ∧ I[i].2.length ≤ 32) ∧ (0 < i → cmpL I[i - 1].1 I[i].1 < 0)
instance (I : List (By × By)) : Decidable (OkI I) := by unfold OkI; infer_instance
def OkSt (I : List (By × By)) (X Y : List Ky) : Prop := (I.length ≤ 1024 ∧ X.length ≤ 16) ∧ (1 ≤ Y.length ∧ Y.length ≤ 16) ∧ OkI I ∧ IncK X ∧ IncK Y
instance (I : List (By × By)) (X Y : List Ky) : Decidable (OkSt I X Y) := by unfold OkSt; infer_instance
def LtI (I : List (By × By)) : Prop := ∀ x ∈ I, x.1.length ≤ 4000000 ∧ x.2.length ≤ 4000000
set_option maxRecDepth 20000 in
theorem K_checkState {A B C : Option Addr} {I : List (By × By)} {X Y : List Ky} {n c m d q e : Nat} (w : World) (hA : RI w A I) (hB : RKs w B X) (hC : RKs w C Y) (hn : n = I.length) (hm : m = X.length) (hq : q = Y.length) (hl : I.length ≤ 4000000) (hl2 : X.length ≤ 4000000) (hl3 : Y.length ≤ 4000000) (hL : LtI I) :
  CallsR Tryz.prog 17 [.agg #[.slice A n c, .slice B m d, .slice C q e]] w fun v w' => v = .int .i64 (if OkSt I X Y then 0 else 2) ∧ Below w.heap.size w w' := by
 subst hn; subst hm; subst hq
 refine callsR Tryz.func17 rfl rfl (by kernel_rfl) rfl ?_
 have hw := Below.refl w.heap.size w
 by_cases h1 : 1024 < I.length
 ·rw [if_neg (fun h => by have := h.1.1; omega)]
  refine rk_seq ?_
  refine rk_region ?_
  refine wl_boxg [_, _, _] rfl (by rfl) ?_
  rintro g1 w1 f1 b1 i1 i1_1
  have s1 := b1.size
  replace hw := hw.trans (b1.mono hw.size)
  refine wl_p (fun _ => o_assign rfl) ?_
  refine wl_nil ?_
  refine rk_seq ?_
  refine rk_seq ?_
  refine rk_region ?_
  refine wl_p (fun _ => o_faddr (s := 31) (i := 0) (off := 0) Tryz.underlying31 rfl Tryz.sizeOf28 rfl rfl rfl) ?_
  refine wl_r (o_loadbg Tryz.isAgg28 rfl f1 (by rfl)) ?_
  refine wl_p (fun _ => o_len (t := 28) Tryz.underlying28 rfl) ?_
  refine wl_p (fun _ => o_gt rfl rfl) ?_
  refine wl_p (fun _ => o_move rfl) ?_
  refine wl_know 9 true rfl (decide_eq_true (by omega)) ?_
  refine wl_off ?_
  refine wl_off ?_
  refine wl_off ?_
  refine wl_off ?_
  refine wl_p (fun _ => o_pick_t rfl rfl) ?_
  refine wl_nil ?_
  refine rk_true rfl ?_
  refine rk_seq ?_
  refine rk_region ?_
  refine wl_p (fun _ => o_assign rfl) ?_
  refine wl_nil ?_
  refine ret1 rfl rfl ?_
  exact ⟨rfl, hw⟩
 by_cases h2 : 16 < X.length
 ·rw [if_neg (fun h => by have := h.1.2; omega)]
  refine rk_seq ?_
  refine rk_region ?_
  refine wl_boxg [_, _, _] rfl (by rfl) ?_
  rintro g1 w1 f1 b1 i1 i1_1
  have s1 := b1.size
  replace hw := hw.trans (b1.mono hw.size)
  refine wl_p (fun _ => o_assign rfl) ?_
  refine wl_nil ?_
  refine rk_seq ?_
  refine rk_seq ?_
  refine rk_region ?_
  refine wl_p (fun _ => o_faddr (s := 31) (i := 0) (off := 0) Tryz.underlying31 rfl Tryz.sizeOf28 rfl rfl rfl) ?_
  refine wl_r (o_loadbg Tryz.isAgg28 rfl f1 (by rfl)) ?_
  refine wl_p (fun _ => o_len (t := 28) Tryz.underlying28 rfl) ?_
  refine wl_p (fun _ => o_gt rfl rfl) ?_
  refine wl_p (fun _ => o_move rfl) ?_
  refine wl_know 9 false rfl (decide_eq_false (by omega)) ?_
  refine wl_p (fun _ => o_faddr (s := 31) (i := 1) (off := 1) Tryz.underlying31 rfl Tryz.sizeOf29 rfl rfl rfl) ?_
  refine wl_r (o_loadbg Tryz.isAgg29 rfl f1 (by rfl)) ?_
  refine wl_p (fun _ => o_len (t := 29) Tryz.underlying29 rfl) ?_
  refine wl_p (fun _ => o_gt rfl rfl) ?_
  refine wl_p (fun _ => o_pick_f rfl rfl) ?_
  refine wl_nil ?_
  refine rk_if rfl (fun h14 => ?_) (fun h14 => h14.elim (by omega))
  refine rk_seq ?_
  refine rk_region ?_
  refine wl_p (fun _ => o_assign rfl) ?_
  refine wl_nil ?_
  refine ret1 rfl rfl ?_
  exact ⟨rfl, hw⟩
 by_cases h3 : Y.length < 1
 ·rw [if_neg (fun h => by have := h.2.1.1; omega)]
  refine rk_seq ?_
  refine rk_region ?_
  refine wl_boxg [_, _, _] rfl (by rfl) ?_
  rintro g1 w1 f1 b1 i1 i1_1
  have s1 := b1.size
  replace hw := hw.trans (b1.mono hw.size)
  refine wl_p (fun _ => o_assign rfl) ?_
  refine wl_nil ?_
  refine rk_seq ?_
  refine rk_seq ?_
  refine rk_region ?_
  refine wl_p (fun _ => o_faddr (s := 31) (i := 0) (off := 0) Tryz.underlying31 rfl Tryz.sizeOf28 rfl rfl rfl) ?_
  refine wl_r (o_loadbg Tryz.isAgg28 rfl f1 (by rfl)) ?_
  refine wl_p (fun _ => o_len (t := 28) Tryz.underlying28 rfl) ?_
  refine wl_p (fun _ => o_gt rfl rfl) ?_
  refine wl_p (fun _ => o_move rfl) ?_
  refine wl_know 9 false rfl (decide_eq_false (by omega)) ?_
  refine wl_p (fun _ => o_faddr (s := 31) (i := 1) (off := 1) Tryz.underlying31 rfl Tryz.sizeOf29 rfl rfl rfl) ?_
  refine wl_r (o_loadbg Tryz.isAgg29 rfl f1 (by rfl)) ?_
  refine wl_p (fun _ => o_len (t := 29) Tryz.underlying29 rfl) ?_
  refine wl_p (fun _ => o_gt rfl rfl) ?_
  refine wl_p (fun _ => o_pick_f rfl rfl) ?_
  refine wl_nil ?_
  refine rk_if rfl (fun h14 => absurd h14 (by omega)) (fun h14 => ?_)
  refine rk_skip ?_
  refine rk_seq ?_
  refine rk_seq ?_
  refine rk_region ?_
  refine wl_p (fun _ => o_faddr (s := 31) (i := 2) (off := 2) Tryz.underlying31 rfl Tryz.sizeOf29 rfl rfl rfl) ?_
  refine wl_r (o_loadbg Tryz.isAgg29 rfl f1 (by rfl)) ?_
  refine wl_p (fun _ => o_len (t := 29) Tryz.underlying29 rfl) ?_
  refine wl_p (fun _ => o_lt rfl rfl) ?_
  refine wl_p (fun _ => o_move rfl) ?_
  refine wl_know 19 true rfl (decide_eq_true (by omega)) ?_
  refine wl_off ?_
  refine wl_off ?_
  refine wl_off ?_
  refine wl_off ?_
  refine wl_p (fun _ => o_pick_t rfl rfl) ?_
  refine wl_nil ?_
  refine rk_true rfl ?_
  refine rk_seq ?_
  refine rk_region ?_
  refine wl_p (fun _ => o_assign rfl) ?_
  refine wl_nil ?_
  refine ret1 rfl rfl ?_
  exact ⟨rfl, hw⟩
 by_cases h4 : 16 < Y.length
 ·rw [if_neg (fun h => by have := h.2.1.2; omega)]
  refine rk_seq ?_
  refine rk_region ?_
  refine wl_boxg [_, _, _] rfl (by rfl) ?_
  rintro g1 w1 f1 b1 i1 i1_1
  have s1 := b1.size
  replace hw := hw.trans (b1.mono hw.size)
  refine wl_p (fun _ => o_assign rfl) ?_
  refine wl_nil ?_
  refine rk_seq ?_
  refine rk_seq ?_
  refine rk_region ?_
  refine wl_p (fun _ => o_faddr (s := 31) (i := 0) (off := 0) Tryz.underlying31 rfl Tryz.sizeOf28 rfl rfl rfl) ?_
  refine wl_r (o_loadbg Tryz.isAgg28 rfl f1 (by rfl)) ?_
  refine wl_p (fun _ => o_len (t := 28) Tryz.underlying28 rfl) ?_
  refine wl_p (fun _ => o_gt rfl rfl) ?_
  refine wl_p (fun _ => o_move rfl) ?_
  refine wl_know 9 false rfl (decide_eq_false (by omega)) ?_
  refine wl_p (fun _ => o_faddr (s := 31) (i := 1) (off := 1) Tryz.underlying31 rfl Tryz.sizeOf29 rfl rfl rfl) ?_
  refine wl_r (o_loadbg Tryz.isAgg29 rfl f1 (by rfl)) ?_
  refine wl_p (fun _ => o_len (t := 29) Tryz.underlying29 rfl) ?_
  refine wl_p (fun _ => o_gt rfl rfl) ?_
  refine wl_p (fun _ => o_pick_f rfl rfl) ?_
  refine wl_nil ?_
  refine rk_if rfl (fun h14 => absurd h14 (by omega)) (fun h14 => ?_)
  refine rk_skip ?_
  refine rk_seq ?_
  refine rk_seq ?_
  refine rk_region ?_
  refine wl_p (fun _ => o_faddr (s := 31) (i := 2) (off := 2) Tryz.underlying31 rfl Tryz.sizeOf29 rfl rfl rfl) ?_
  refine wl_r (o_loadbg Tryz.isAgg29 rfl f1 (by rfl)) ?_
  refine wl_p (fun _ => o_len (t := 29) Tryz.underlying29 rfl) ?_
  refine wl_p (fun _ => o_lt rfl rfl) ?_
  refine wl_p (fun _ => o_move rfl) ?_
  refine wl_know 19 false rfl (decide_eq_false (by omega)) ?_
  refine wl_p (fun _ => o_faddr (s := 31) (i := 2) (off := 2) Tryz.underlying31 rfl Tryz.sizeOf29 rfl rfl rfl) ?_
  refine wl_r (o_loadbg Tryz.isAgg29 rfl f1 (by rfl)) ?_
  refine wl_p (fun _ => o_len (t := 29) Tryz.underlying29 rfl) ?_
  refine wl_p (fun _ => o_gt rfl rfl) ?_
  refine wl_p (fun _ => o_pick_f rfl rfl) ?_
  refine wl_nil ?_
  refine rk_if rfl (fun h24 => ?_) (fun h24 => h24.elim (by omega))
  refine rk_seq ?_
  refine rk_region ?_
  refine wl_p (fun _ => o_assign rfl) ?_
  refine wl_nil ?_
  refine ret1 rfl rfl ?_
  exact ⟨rfl, hw⟩
 refine rk_seq ?_
 refine rk_region ?_
 refine wl_boxg [_, _, _] rfl (by rfl) ?_
 rintro g1 w1 f1 b1 i1 i1_1
 have s1 := b1.size
 replace hw := hw.trans (b1.mono hw.size)
 refine wl_p (fun _ => o_assign rfl) ?_
 refine wl_nil ?_
 refine rk_seq ?_
 refine rk_seq ?_
 refine rk_region ?_
 refine wl_p (fun _ => o_faddr (s := 31) (i := 0) (off := 0) Tryz.underlying31 rfl Tryz.sizeOf28 rfl rfl rfl) ?_
 refine wl_r (o_loadbg Tryz.isAgg28 rfl f1 (by rfl)) ?_
 refine wl_p (fun _ => o_len (t := 28) Tryz.underlying28 rfl) ?_
 refine wl_p (fun _ => o_gt rfl rfl) ?_
 refine wl_p (fun _ => o_move rfl) ?_
 refine wl_know 9 false rfl (decide_eq_false (by omega)) ?_
 refine wl_p (fun _ => o_faddr (s := 31) (i := 1) (off := 1) Tryz.underlying31 rfl Tryz.sizeOf29 rfl rfl rfl) ?_
 refine wl_r (o_loadbg Tryz.isAgg29 rfl f1 (by rfl)) ?_
 refine wl_p (fun _ => o_len (t := 29) Tryz.underlying29 rfl) ?_
 refine wl_p (fun _ => o_gt rfl rfl) ?_
 refine wl_p (fun _ => o_pick_f rfl rfl) ?_
 refine wl_nil ?_
 refine rk_if rfl (fun h14 => absurd h14 (by omega)) (fun h14 => ?_)
 refine rk_skip ?_
 refine rk_seq ?_
 refine rk_seq ?_
 refine rk_region ?_
 refine wl_p (fun _ => o_faddr (s := 31) (i := 2) (off := 2) Tryz.underlying31 rfl Tryz.sizeOf29 rfl rfl rfl) ?_
 refine wl_r (o_loadbg Tryz.isAgg29 rfl f1 (by rfl)) ?_
 refine wl_p (fun _ => o_len (t := 29) Tryz.underlying29 rfl) ?_
 refine wl_p (fun _ => o_lt rfl rfl) ?_
 refine wl_p (fun _ => o_move rfl) ?_
 refine wl_know 19 false rfl (decide_eq_false (by omega)) ?_
 refine wl_p (fun _ => o_faddr (s := 31) (i := 2) (off := 2) Tryz.underlying31 rfl Tryz.sizeOf29 rfl rfl rfl) ?_
 refine wl_r (o_loadbg Tryz.isAgg29 rfl f1 (by rfl)) ?_
 refine wl_p (fun _ => o_len (t := 29) Tryz.underlying29 rfl) ?_
 refine wl_p (fun _ => o_gt rfl rfl) ?_
 refine wl_p (fun _ => o_pick_f rfl rfl) ?_
 refine wl_nil ?_
 refine rk_if rfl (fun h24 => absurd h24 (by omega)) (fun h24 => ?_)
 refine rk_skip ?_
 refine rk_seq ?_
 refine rk_seq ?_
 refine rk_region ?_
 refine wl_p (fun _ => o_faddr (s := 31) (i := 0) (off := 0) Tryz.underlying31 rfl Tryz.sizeOf28 rfl rfl rfl) ?_
 refine wl_r (o_loadbg Tryz.isAgg28 rfl f1 (by rfl)) ?_
 refine wl_p (fun _ => o_len (t := 28) Tryz.underlying28 rfl) ?_
 refine wl_p (fun _ => o_move rfl) ?_
 refine wl_nil ?_
 refine rk_block ?_
 refine rk_joinf (fun fb fr w2 => fr = [] ++ fb.drop 1 ∧ OkI I ∧ Blk w2 g1 31 [.slice A I.length c, .slice B X.length d, .slice C Y.length e] ∧ Below w.heap.size w w2) ?_ (fun ks hj => ?_)
 rotate_left
 ·refine rk_loopf (fun fb k fr w2 => ∃ (i : Nat) (v : Int), fr = [(28, .int .i64 v)] ++ fb.drop 1 ∧ v = i ∧ i ≤ I.length ∧ k = I.length - i ∧ (∀ j (h : j < I.length), j < i → ((1 ≤ I[j].1.length ∧ I[j].1.length ≤ 16) ∧ I[j].2.length ≤ 32) ∧ (0 < j → cmpL I[j - 1].1 I[j].1 < 0)) ∧ Blk w2 g1 31 [.slice A I.length c, .slice B X.length d, .slice C Y.length e] ∧ w1.heap.size ≤ w2.heap.size ∧ Below w.heap.size w w2) (n := I.length) (Fr.le_of (by kernel_rfl) (by kernel_rfl) (by repeat' constructor)) ⟨0, _, rfl, rfl, by omega, rfl, fun j _ h => absurd h (Nat.not_lt_zero _), f1, Nat.le_refl _, hw⟩ ?_
  clear hw f1
  rintro k fr w2 ⟨i, v, rfl, rfl, hi, rfl, hok, f1, hsz, hw⟩
  have shw := hw.size
  first | refine rk_frame (by simp only [List.cons_append, List.nil_append, List.drop_succ_cons, List.drop_zero]; rfl) ?_ | refine wl_frame (by simp only [List.cons_append, List.nil_append, List.drop_succ_cons, List.drop_zero]; rfl) ?_
  refine rk_seq ?_
  refine rk_region ?_
  refine wl_p (fun _ => o_lt rfl rfl) ?_
  refine wl_nil ?_
  refine rk_seq ?_
  refine rk_if rfl (fun h29 => ?_) (fun h29 => ?_)
  ·have hil : i < I.length := by omega
   obtain ⟨n1, n2⟩ := hL _ (List.getElem_mem hil)
   by_cases k1 : 1 ≤ I[i].1.length ∧ I[i].1.length ≤ 16
   ·by_cases k2 : I[i].2.length ≤ 32
    ·by_cases k3 : 0 < i
     ·have hi1 : i - 1 < I.length := by omega
      obtain ⟨n3, n4⟩ := hL _ (List.getElem_mem hi1)
      refine rk_skip ?_
      refine rk_seq ?_
      refine rk_block ?_
      refine rk_seq ?_
      refine rk_region ?_
      refine wl_p (fun _ => o_move rfl) ?_
      refine wl_p (fun _ => (o_iaddrA (i) Tryz.underlying28 Tryz.sizeOf94 rfl rfl rfl (hA.some_ (by omega)) (by omega))) ?_
      refine wl_ldItem rfl hA hw (by omega) ?_
      rintro A132 c132 A232 c232 f32 f32_1 i32 i32_1
      refine wl_allocg [_, _] Tryz.zeroValue94 (by rfl) ?_
      rintro g4 w4 f4 b4 i4 i4_1
      have s4 := b4.size
      replace hw := hw.trans (b4.mono hw.size)
      replace f1 := f1.u b4
      refine wl_p (fun _ => o_assign rfl) ?_
      refine wl_storega Tryz.sizeOf94 rfl rfl (by rfl) (oneCell_of (by rfl)) f4 (by rfl) ?_
      rintro w_1 f g e_1
      have s := g.size
      replace hw := hw.trans (below_of_grownBy g.g hw.size (by omega))
      replace f1 := f1.k g.g (ap_some (by omega))
      clear f4
      refine wl_nil ?_
      refine rk_seq ?_
      refine rk_seq ?_
      refine rk_region ?_
      refine wl_p (fun _ => o_faddr (s := 94) (i := 0) (off := 0) Tryz.underlying94 rfl Tryz.sizeOf39 rfl rfl rfl) ?_
      refine wl_r (o_loadbg Tryz.isAgg39 rfl f (by rfl)) ?_
      refine wl_call rfl (C_leafKey _ (by omega)) ?_
      rintro v35 w35 ⟨rfl, rfl⟩
      refine wl_p (fun _ => o_not rfl) ?_
      refine wl_p (fun _ => o_move rfl) ?_
      refine wl_know 37 false rfl (by simp; omega) ?_
      refine wl_p (fun _ => o_faddr (s := 94) (i := 1) (off := 1) Tryz.underlying94 rfl Tryz.sizeOf39 rfl rfl rfl) ?_
      refine wl_r (o_loadbg Tryz.isAgg39 rfl f (by rfl)) ?_
      refine wl_call rfl (C_leafValue _ (by omega)) ?_
      rintro v40 w40 ⟨rfl, rfl⟩
      refine wl_p (fun _ => o_not rfl) ?_
      refine wl_p (fun _ => o_pick_f rfl rfl) ?_
      refine wl_nil ?_
      rw [decide_eq_true k2]
      refine rk_false rfl ?_
      refine rk_skip ?_
      refine rk_seq ?_
      refine rk_draw (id := 10) (none) [0, 1, 2, 4, 12, 4, 36, 84, 132, 260, 4, 1028, 2564, 4100, 8196] [0, 1, 3, 7, 15, 7, 39, 127, 255, 511, 7, 1031, 4095, 8191, 16383] 4096 0 [(.p, 0), (.p, 1), (.p, 2), (.p, 3), (.r, 4), (.p, 5), (.p, 6), (.p, 7), (.p, 8), (.r, 9), (.p, 10), (.r, 11), (.l, 12), (.p, 13), (.p, 14)] (by kernel_rfl) (by kernel_rfl) (by kernel_rfl) (by kernel_rfl) (by kernel_rfl) ?_
      replace hw := hw.drew
      replace f1 := f1.d
      replace f := f.d
      refine wl_p (fun _ => o_move rfl) ?_
      refine wl_p (fun _ => o_gt rfl rfl) ?_
      refine wl_p (fun _ => o_move rfl) ?_
      refine wl_know 45 true rfl (decide_eq_true (by omega)) ?_
      refine wl_p (fun _ => o_faddr (s := 31) (i := 0) (off := 0) Tryz.underlying31 rfl Tryz.sizeOf28 rfl rfl rfl) ?_
      refine wl_r (o_loadbg Tryz.isAgg28 rfl f1 (by rfl)) ?_
      refine wl_p (fun _ => o_move rfl) ?_
      refine wl_p (fun _ => o_sub rfl rfl (by omega) (by omega)) ?_
      refine wl_p (fun _ => (o_iaddrA (i - 1) Tryz.underlying28 Tryz.sizeOf94 rfl rfl (by omega) (hA.some_ (by omega)) (by omega))) ?_
      refine wl_p (fun _ => (o_faddrR rfl Tryz.underlying94 (by rfl) Tryz.sizeOf39 (by rfl) (by rfl))) ?_
      refine wl_ldKey rfl hA hw (by omega) ?_
      rintro A152 c152 f52 i52
      refine wl_p (fun _ => o_faddr (s := 94) (i := 0) (off := 0) Tryz.underlying94 rfl Tryz.sizeOf39 rfl rfl rfl) ?_
      refine wl_r (o_loadbg Tryz.isAgg39 rfl f (by rfl)) ?_
      refine wl_call rfl (C_leafCompare _ (f52.u hw) (f32.u hw) rfl rfl (by omega) (by omega)) ?_
      rintro v55 w55 ⟨rfl, b55⟩
      simp only [drew_size] at b55
      have s55 := b55.size
      simp only [drew_size] at s55
      replace hw := hw.trans (b55.mono hw.size)
      replace f := f.u b55
      replace f1 := f1.u b55
      refine wl_p (fun _ => o_ge rfl rfl) ?_
      refine wl_p (fun _ => o_pick_t rfl rfl) ?_
      refine wl_nild ?_
      refine rk_if rfl (fun h57 => ?_) (fun h57 => ?_)
      ·rw [if_neg (fun h => absurd ((h.2.2.1 i hil).2 k3) (by omega))]
       refine rk_seq ?_
       refine rk_region ?_
       refine wl_p (fun _ => o_assign rfl) ?_
       refine wl_nil ?_
       refine ret1 rfl rfl ?_
       exact ⟨rfl, hw⟩
      ·refine rk_skip ?_
       refine rk_blk ?_
       refine rk_region ?_
       refine wl_p (fun _ => o_add rfl rfl (by omega) (by omega)) ?_
       refine wl_p (fun _ => o_move rfl) ?_
       refine wl_nil ?_
       exact rk_againf (Fr.le_of (by kernel_rfl) (by kernel_rfl) (by repeat' constructor)) ⟨i + 1, (i : Int) + 1, rfl, by omega, by omega, rfl, fun j hj hji => by
        rcases Nat.lt_or_ge j i with h | h
        ·exact hok j hj h
        ·obtain rfl : j = i := by omega
         exact ⟨⟨k1, k2⟩, fun _ => by omega⟩, f1, by omega, hw⟩ (by omega)
     ·refine rk_skip ?_
      refine rk_seq ?_
      refine rk_block ?_
      refine rk_seq ?_
      refine rk_region ?_
      refine wl_p (fun _ => o_move rfl) ?_
      refine wl_p (fun _ => (o_iaddrA (i) Tryz.underlying28 Tryz.sizeOf94 rfl rfl rfl (hA.some_ (by omega)) (by omega))) ?_
      refine wl_ldItem rfl hA hw (by omega) ?_
      rintro A132 c132 A232 c232 f32 f32_1 i32 i32_1
      refine wl_allocg [_, _] Tryz.zeroValue94 (by rfl) ?_
      rintro g4 w4 f4 b4 i4 i4_1
      have s4 := b4.size
      replace hw := hw.trans (b4.mono hw.size)
      replace f1 := f1.u b4
      refine wl_p (fun _ => o_assign rfl) ?_
      refine wl_storega Tryz.sizeOf94 rfl rfl (by rfl) (oneCell_of (by rfl)) f4 (by rfl) ?_
      rintro w_1 f g e_1
      have s := g.size
      replace hw := hw.trans (below_of_grownBy g.g hw.size (by omega))
      replace f1 := f1.k g.g (ap_some (by omega))
      clear f4
      refine wl_nil ?_
      refine rk_seq ?_
      refine rk_seq ?_
      refine rk_region ?_
      refine wl_p (fun _ => o_faddr (s := 94) (i := 0) (off := 0) Tryz.underlying94 rfl Tryz.sizeOf39 rfl rfl rfl) ?_
      refine wl_r (o_loadbg Tryz.isAgg39 rfl f (by rfl)) ?_
      refine wl_call rfl (C_leafKey _ (by omega)) ?_
      rintro v35 w35 ⟨rfl, rfl⟩
      refine wl_p (fun _ => o_not rfl) ?_
      refine wl_p (fun _ => o_move rfl) ?_
      refine wl_know 37 false rfl (by simp; omega) ?_
      refine wl_p (fun _ => o_faddr (s := 94) (i := 1) (off := 1) Tryz.underlying94 rfl Tryz.sizeOf39 rfl rfl rfl) ?_
      refine wl_r (o_loadbg Tryz.isAgg39 rfl f (by rfl)) ?_
      refine wl_call rfl (C_leafValue _ (by omega)) ?_
      rintro v40 w40 ⟨rfl, rfl⟩
      refine wl_p (fun _ => o_not rfl) ?_
      refine wl_p (fun _ => o_pick_f rfl rfl) ?_
      refine wl_nil ?_
      rw [decide_eq_true k2]
      refine rk_false rfl ?_
      refine rk_skip ?_
      refine rk_seq ?_
      refine rk_draw (id := 10) (none) [0, 1, 2, 4, 12, 4, 36, 84, 132, 260, 4, 1028, 2564, 4100, 8196] [0, 1, 3, 7, 15, 7, 39, 127, 255, 511, 7, 1031, 4095, 8191, 16383] 4096 0 [(.p, 0), (.p, 1), (.p, 2), (.p, 3), (.r, 4), (.p, 5), (.p, 6), (.p, 7), (.p, 8), (.r, 9), (.p, 10), (.r, 11), (.l, 12), (.p, 13), (.p, 14)] (by kernel_rfl) (by kernel_rfl) (by kernel_rfl) (by kernel_rfl) (by kernel_rfl) ?_
      replace hw := hw.drew
      replace f1 := f1.d
      replace f := f.d
      refine wl_p (fun _ => o_move rfl) ?_
      refine wl_p (fun _ => o_gt rfl rfl) ?_
      refine wl_p (fun _ => o_move rfl) ?_
      refine wl_know 45 false rfl (decide_eq_false (by omega)) ?_
      refine wl_off ?_
      refine wl_off ?_
      refine wl_off ?_
      refine wl_off ?_
      refine wl_off ?_
      refine wl_off ?_
      refine wl_off ?_
      refine wl_off ?_
      refine wl_off ?_
      refine wl_off ?_
      refine wl_off ?_
      refine wl_p (fun _ => o_pick_f rfl rfl) ?_
      refine wl_nild ?_
      refine rk_false rfl ?_
      refine rk_skip ?_
      refine rk_blk ?_
      refine rk_region ?_
      refine wl_p (fun _ => o_add rfl rfl (by omega) (by omega)) ?_
      refine wl_p (fun _ => o_move rfl) ?_
      refine wl_nil ?_
      exact rk_againf (Fr.le_of (by kernel_rfl) (by kernel_rfl) (by repeat' constructor)) ⟨i + 1, (i : Int) + 1, rfl, by omega, by omega, rfl, fun j hj hji => by
       rcases Nat.lt_or_ge j i with h | h
       ·exact hok j hj h
       ·obtain rfl : j = i := by omega
        exact ⟨⟨k1, k2⟩, fun h => absurd h k3⟩, f1, by first | omega | (simp only [drew_size]; omega), hw⟩ (by omega)
    ·rw [if_neg (fun h => k2 (h.2.2.1 i hil).1.2)]
     refine rk_skip ?_
     refine rk_seq ?_
     refine rk_block ?_
     refine rk_seq ?_
     refine rk_region ?_
     refine wl_p (fun _ => o_move rfl) ?_
     refine wl_p (fun _ => (o_iaddrA (i) Tryz.underlying28 Tryz.sizeOf94 rfl rfl rfl (hA.some_ (by omega)) (by omega))) ?_
     refine wl_ldItem rfl hA hw (by omega) ?_
     rintro A132 c132 A232 c232 f32 f32_1 i32 i32_1
     refine wl_allocg [_, _] Tryz.zeroValue94 (by rfl) ?_
     rintro g4 w4 f4 b4 i4 i4_1
     have s4 := b4.size
     replace hw := hw.trans (b4.mono hw.size)
     replace f1 := f1.u b4
     refine wl_p (fun _ => o_assign rfl) ?_
     refine wl_storega Tryz.sizeOf94 rfl rfl (by rfl) (oneCell_of (by rfl)) f4 (by rfl) ?_
     rintro w_1 f g e_1
     have s := g.size
     replace hw := hw.trans (below_of_grownBy g.g hw.size (by omega))
     replace f1 := f1.k g.g (ap_some (by omega))
     clear f4
     refine wl_nil ?_
     refine rk_seq ?_
     refine rk_seq ?_
     refine rk_region ?_
     refine wl_p (fun _ => o_faddr (s := 94) (i := 0) (off := 0) Tryz.underlying94 rfl Tryz.sizeOf39 rfl rfl rfl) ?_
     refine wl_r (o_loadbg Tryz.isAgg39 rfl f (by rfl)) ?_
     refine wl_call rfl (C_leafKey _ (by omega)) ?_
     rintro v35 w35 ⟨rfl, rfl⟩
     refine wl_p (fun _ => o_not rfl) ?_
     refine wl_p (fun _ => o_move rfl) ?_
     refine wl_know 37 false rfl (by simp; omega) ?_
     refine wl_p (fun _ => o_faddr (s := 94) (i := 1) (off := 1) Tryz.underlying94 rfl Tryz.sizeOf39 rfl rfl rfl) ?_
     refine wl_r (o_loadbg Tryz.isAgg39 rfl f (by rfl)) ?_
     refine wl_call rfl (C_leafValue _ (by omega)) ?_
     rintro v40 w40 ⟨rfl, rfl⟩
     refine wl_p (fun _ => o_not rfl) ?_
     refine wl_p (fun _ => o_pick_f rfl rfl) ?_
     refine wl_nil ?_
     rw [decide_eq_false k2]
     refine rk_true rfl ?_
     refine rk_seq ?_
     refine rk_region ?_
     refine wl_p (fun _ => o_assign rfl) ?_
     refine wl_nil ?_
     refine ret1 rfl rfl ?_
     exact ⟨rfl, hw⟩
   ·rw [if_neg (fun h => k1 (h.2.2.1 i hil).1.1)]
    refine rk_skip ?_
    refine rk_seq ?_
    refine rk_block ?_
    refine rk_seq ?_
    refine rk_region ?_
    refine wl_p (fun _ => o_move rfl) ?_
    refine wl_p (fun _ => (o_iaddrA (i) Tryz.underlying28 Tryz.sizeOf94 rfl rfl rfl (hA.some_ (by omega)) (by omega))) ?_
    refine wl_ldItem rfl hA hw (by omega) ?_
    rintro A132 c132 A232 c232 f32 f32_1 i32 i32_1
    refine wl_allocg [_, _] Tryz.zeroValue94 (by rfl) ?_
    rintro g4 w4 f4 b4 i4 i4_1
    have s4 := b4.size
    replace hw := hw.trans (b4.mono hw.size)
    replace f1 := f1.u b4
    refine wl_p (fun _ => o_assign rfl) ?_
    refine wl_storega Tryz.sizeOf94 rfl rfl (by rfl) (oneCell_of (by rfl)) f4 (by rfl) ?_
    rintro w_1 f g e_1
    have s := g.size
    replace hw := hw.trans (below_of_grownBy g.g hw.size (by omega))
    replace f1 := f1.k g.g (ap_some (by omega))
    clear f4
    refine wl_nil ?_
    refine rk_seq ?_
    refine rk_seq ?_
    refine rk_region ?_
    refine wl_p (fun _ => o_faddr (s := 94) (i := 0) (off := 0) Tryz.underlying94 rfl Tryz.sizeOf39 rfl rfl rfl) ?_
    refine wl_r (o_loadbg Tryz.isAgg39 rfl f (by rfl)) ?_
    refine wl_call rfl (C_leafKey _ (by omega)) ?_
    rintro v35 w35 ⟨rfl, rfl⟩
    refine wl_p (fun _ => o_not rfl) ?_
    refine wl_p (fun _ => o_move rfl) ?_
    rw [decide_eq_false k1]
    refine wl_off ?_
    refine wl_off ?_
    refine wl_off ?_
    refine wl_off ?_
    refine wl_p (fun _ => o_pick_t rfl rfl) ?_
    refine wl_nil ?_
    refine rk_true rfl ?_
    refine rk_seq ?_
    refine rk_region ?_
    refine wl_p (fun _ => o_assign rfl) ?_
    refine wl_nil ?_
    refine ret1 rfl rfl ?_
    exact ⟨rfl, hw⟩
  ·refine rk_exit rfl ?_
   exact rk_tof hj (Fr.le_of (by kernel_rfl) (by kernel_rfl) (by repeat' constructor)) ⟨rfl, fun j h => hok j h (by omega), f1, hw⟩
 clear hw f1
 rintro fr w2 ⟨rfl, hI, f1, hw⟩
 have shw := hw.size
 first | refine rk_frame (by simp only [List.cons_append, List.nil_append, List.drop_succ_cons, List.drop_zero]; rfl) ?_ | refine wl_frame (by simp only [List.cons_append, List.nil_append, List.drop_succ_cons, List.drop_zero]; rfl) ?_
 by_cases h5 : IncK X
 ·by_cases h6 : IncK Y
  ·rw [if_pos ⟨⟨by omega, by omega⟩, ⟨by omega, by omega⟩, hI, h5, h6⟩]
   refine rk_seq ?_
   refine rk_seq ?_
   refine rk_region ?_
   refine wl_p (fun _ => o_faddr (s := 31) (i := 1) (off := 1) Tryz.underlying31 rfl Tryz.sizeOf29 rfl rfl rfl) ?_
   refine wl_r (o_loadbg Tryz.isAgg29 rfl f1 (by rfl)) ?_
   refine wl_call rfl (C_increasing _ (hB.u hw) rfl (by omega)) ?_
   rintro v61 w61 ⟨rfl, b61⟩
   have s61 := b61.size
   replace hw := hw.trans (b61.mono hw.size)
   replace f1 := f1.u b61
   refine wl_p (fun _ => o_not rfl) ?_
   refine wl_p (fun _ => o_move rfl) ?_
   refine wl_know 63 false rfl (by simp; omega) ?_
   refine wl_p (fun _ => o_faddr (s := 31) (i := 2) (off := 2) Tryz.underlying31 rfl Tryz.sizeOf29 rfl rfl rfl) ?_
   refine wl_r (o_loadbg Tryz.isAgg29 rfl f1 (by rfl)) ?_
   refine wl_call rfl (C_increasing _ (hC.u hw) rfl (by omega)) ?_
   rintro v66 w66 ⟨rfl, b66⟩
   have s66 := b66.size
   replace hw := hw.trans (b66.mono hw.size)
   replace f1 := f1.u b66
   refine wl_p (fun _ => o_not rfl) ?_
   refine wl_p (fun _ => o_pick_f rfl rfl) ?_
   refine wl_nil ?_
   rw [decide_eq_true h6]
   refine rk_false rfl ?_
   refine rk_skip ?_
   refine rk_seq ?_
   refine rk_region ?_
   refine wl_p (fun _ => o_assign rfl) ?_
   refine wl_nil ?_
   refine ret1 rfl rfl ?_
   exact ⟨rfl, hw⟩
  ·rw [if_neg (fun h => h6 h.2.2.2.2)]
   refine rk_seq ?_
   refine rk_seq ?_
   refine rk_region ?_
   refine wl_p (fun _ => o_faddr (s := 31) (i := 1) (off := 1) Tryz.underlying31 rfl Tryz.sizeOf29 rfl rfl rfl) ?_
   refine wl_r (o_loadbg Tryz.isAgg29 rfl f1 (by rfl)) ?_
   refine wl_call rfl (C_increasing _ (hB.u hw) rfl (by omega)) ?_
   rintro v61 w61 ⟨rfl, b61⟩
   have s61 := b61.size
   replace hw := hw.trans (b61.mono hw.size)
   replace f1 := f1.u b61
   refine wl_p (fun _ => o_not rfl) ?_
   refine wl_p (fun _ => o_move rfl) ?_
   refine wl_know 63 false rfl (by simp; omega) ?_
   refine wl_p (fun _ => o_faddr (s := 31) (i := 2) (off := 2) Tryz.underlying31 rfl Tryz.sizeOf29 rfl rfl rfl) ?_
   refine wl_r (o_loadbg Tryz.isAgg29 rfl f1 (by rfl)) ?_
   refine wl_call rfl (C_increasing _ (hC.u hw) rfl (by omega)) ?_
   rintro v66 w66 ⟨rfl, b66⟩
   have s66 := b66.size
   replace hw := hw.trans (b66.mono hw.size)
   replace f1 := f1.u b66
   refine wl_p (fun _ => o_not rfl) ?_
   refine wl_p (fun _ => o_pick_f rfl rfl) ?_
   refine wl_nil ?_
   rw [decide_eq_false h6]
   refine rk_true rfl ?_
   refine rk_seq ?_
   refine rk_region ?_
   refine wl_p (fun _ => o_assign rfl) ?_
   refine wl_nil ?_
   refine ret1 rfl rfl ?_
   exact ⟨rfl, hw⟩
 ·rw [if_neg (fun h => h5 h.2.2.2.1)]
  refine rk_seq ?_
  refine rk_seq ?_
  refine rk_region ?_
  refine wl_p (fun _ => o_faddr (s := 31) (i := 1) (off := 1) Tryz.underlying31 rfl Tryz.sizeOf29 rfl rfl rfl) ?_
  refine wl_r (o_loadbg Tryz.isAgg29 rfl f1 (by rfl)) ?_
  refine wl_call rfl (C_increasing _ (hB.u hw) rfl (by omega)) ?_
  rintro v61 w61 ⟨rfl, b61⟩
  have s61 := b61.size
  replace hw := hw.trans (b61.mono hw.size)
  replace f1 := f1.u b61
  refine wl_p (fun _ => o_not rfl) ?_
  refine wl_p (fun _ => o_move rfl) ?_
  refine wl_know 63 true rfl (by simp; omega) ?_
  refine wl_off ?_
  refine wl_off ?_
  refine wl_off ?_
  refine wl_off ?_
  refine wl_p (fun _ => o_pick_t rfl rfl) ?_
  refine wl_nil ?_
  refine rk_true rfl ?_
  refine rk_seq ?_
  refine rk_region ?_
  refine wl_p (fun _ => o_assign rfl) ?_
  refine wl_nil ?_
  rw [decide_eq_false h5]
  refine ret1 rfl rfl ?_
  exact ⟨rfl, hw⟩
end Go.Proofs.YtahkeoegbjopfaaGreat
/-
  Walks of package ops: where a key is among rising ones.
-/
namespace Go.Proofs.YtahkeoegbjopfaaGreat
set_option maxRecDepth 100000
open Go.RowKit
theorem C_checkStateOk {A B C : Option Addr} {I : List (By × By)} {X Y : List Ky} {n c m d q e : Nat} (w : World) (hA : RI w A I) (hB : RKs w B X) (hC : RKs w C Y) (hn : n = I.length) (hm : m = X.length) (hq : q = Y.length) (hl : I.length ≤ 4000000) (hl2 : X.length ≤ 4000000) (hl3 : Y.length ≤ 4000000) (hL : LtI I) (hok : OkSt I X Y) :
  CallsR Tryz.prog 17 [.agg #[.slice A n c, .slice B m d, .slice C q e]] w fun v w' => v = .int .i64 0 ∧ Below w.heap.size w w' := by
 have h := K_checkState (n := n) (c := c) (m := m) (d := d) (q := q) (e := e) w hA hB hC hn hm hq hl hl2 hl3 hL
 rwa [if_pos hok] at h
theorem C_checkStateBad {A B C : Option Addr} {I : List (By × By)} {X Y : List Ky} {n c m d q e : Nat} (w : World) (hA : RI w A I) (hB : RKs w B X) (hC : RKs w C Y) (hn : n = I.length) (hm : m = X.length) (hq : q = Y.length) (hl : I.length ≤ 4000000) (hl2 : X.length ≤ 4000000) (hl3 : Y.length ≤ 4000000) (hL : LtI I) (hok : ¬OkSt I X Y) :
  CallsR Tryz.prog 17 [.agg #[.slice A n c, .slice B m d, .slice C q e]] w fun v w' => v = .int .i64 2 ∧ Below w.heap.size w w' := by
 have h := K_checkState (n := n) (c := c) (m := m) (d := d) (q := q) (e := e) w hA hB hC hn hm hq hl hl2 hl3 hL
 rwa [if_neg hok] at h
def low (L : List By) (p : By) : Nat := L.countP (fun x => decide (cmpL x p < 0))
def Srt (L : List By) : Prop := ∀ i (h : i < L.length), 0 < i → cmpL L[i - 1] L[i] < 0
theorem low_le (L : List By) (p : By) : low L p ≤ L.length := List.countP_le_length
theorem count_cut {α : Type} (p : α → Bool) : ∀ (l : List α) (k : Nat), k ≤ l.length → (∀ j (h : j < l.length), j < k → p l[j] = true) → (∀ j (h : j < l.length), k ≤ j → p l[j] = false) → l.countP p = k
 | [], k, hk, _, _ => by simp at hk; simp [hk]
 | x :: l, 0, _, _, h2 => by
  rw [List.countP_eq_zero]
  intro y hy
  obtain ⟨j, hj, rfl⟩ := List.getElem_of_mem hy
  simp [h2 j hj (Nat.zero_le _)]
 | x :: l, k + 1, hk, h1, h2 => by
  have h0 : p x = true := h1 0 (by simp) (by omega)
  rw [List.countP_cons_of_pos h0, count_cut p l k (by simpa using hk) (fun j hj hjk => h1 (j + 1) (by simpa using hj) (by omega)) (fun j hj hjk => h2 (j + 1) (by simpa using hj) (by omega))]
theorem cmpL_chain {l : List By} (h : Srt l) : ∀ (j i : Nat) (hj : j < l.length) (hij : i < j), cmpL l[i] l[j] < 0
 | 0, i, _, hij => absurd hij (Nat.not_lt_zero _)
 | j + 1, i, hj, hij => by
  have h1 := h (j + 1) hj (by omega)
  simp only [Nat.add_sub_cancel] at h1
  rcases Nat.lt_or_ge i j with h2 | h2
  ·exact cmpL_trans _ _ _ (cmpL_chain h j i (by omega) h2) h1
  ·obtain rfl : i = j := by omega
   exact h1
theorem low_eq {l : List By} {p : By} {k : Nat} (hk : k ≤ l.length) (h1 : ∀ j (h : j < l.length), j < k → cmpL l[j] p < 0) (h2 : ∀ j (h : j < l.length), k ≤ j → 0 ≤ cmpL l[j] p) : low l p = k :=
 count_cut _ l k hk (fun j hj hjk => by simpa using h1 j hj hjk) (fun j hj hjk => by simpa using h2 j hj hjk)
theorem has_eq {l : List By} {p : By} {k : Nat} (hs : Srt l) (h1 : ∀ j (h : j < l.length), j < k → cmpL l[j] p < 0) (h2 : ∀ j (h : j < l.length), k ≤ j → 0 ≤ cmpL l[j] p) : p ∈ l ↔ ∃ h : k < l.length, cmpL l[k] p = 0 := by
 constructor
 ·intro h
  obtain ⟨j, hj, rfl⟩ := List.getElem_of_mem h
  have h0 := cmpL_self l[j]
  rcases Nat.lt_trichotomy j k with h3 | h3 | h3
  ·have := h1 j hj h3; omega
  ·subst h3; exact ⟨hj, h0⟩
  ·have h4 := h2 k (by omega) (Nat.le_refl _)
   have h5 := cmpL_chain hs j k hj h3
   omega
 ·rintro ⟨h, h0⟩
  have e := (cmpL_zero _ _).1 h0
  rw [← e]
  exact List.getElem_mem h
theorem below_all {l : List By} {p : By} (hs : Srt l) {h : Nat} (hh : h < l.length) (hc : cmpL l[h] p < 0) : ∀ j (hj : j < l.length), j < h + 1 → cmpL l[j] p < 0 := fun j hj hjh => by
 rcases Nat.lt_or_ge j h with h3 | h3
 ·exact cmpL_trans _ _ _ (cmpL_chain hs h j hh h3) hc
 ·obtain rfl : j = h := by omega
  exact hc
theorem above_all {l : List By} {p : By} (hs : Srt l) {h : Nat} (hh : h < l.length) (hc : 0 ≤ cmpL l[h] p) : ∀ j (hj : j < l.length), h ≤ j → 0 ≤ cmpL l[j] p := fun j hj hjh => by
 rcases Nat.lt_or_ge h j with h3 | h3
 ·rcases Int.lt_or_le (cmpL l[j] p) 0 with h4 | h4
  ·have := cmpL_trans _ _ _ (cmpL_chain hs j h hj h3) h4
   omega
  ·exact h4
 ·obtain rfl : j = h := by omega
  exact hc
theorem C_find1 {K V P : Option Addr} {a p : By} {n c m d q e : Nat} (w : World) (hK : Rd w K a) (hP : Rd w P p) (hn : n = a.length) (hq : q = p.length) (hl : a.length ≤ 4000000) (hl2 : p.length ≤ 4000000) :
  CallsR Tryz.prog 91 [.agg #[.slice K n c, .slice V m d], .slice P q e] w fun v w' => v = .int .i64 (cmpL a p) ∧ Below w.heap.size w w' := by
 subst hn; subst hq
 refine callsR Tryz.func91 rfl rfl (by kernel_rfl) rfl ?_
 have hw := Below.refl w.heap.size w
 refine rk_seq ?_
 refine rk_region ?_
 refine wl_boxg [_, _] rfl (by rfl) ?_
 rintro g2 w2 f2 b2 i2 i2_1
 have s2 := b2.size
 replace hw := hw.trans (b2.mono hw.size)
 refine wl_p (fun _ => o_assign rfl) ?_
 refine wl_nil ?_
 refine rk_seq ?_
 refine rk_region ?_
 refine wl_p (fun _ => o_faddr (s := 94) (i := 0) (off := 0) Tryz.underlying94 rfl Tryz.sizeOf39 rfl rfl rfl) ?_
 refine wl_r (o_loadbg Tryz.isAgg39 rfl f2 (by rfl)) ?_
 refine wl_p (fun _ => o_move rfl) ?_
 refine wl_call rfl (C_leafCompare _ (hK.u hw) (hP.u hw) rfl rfl (by omega) (by omega)) ?_
 rintro v8 w8 ⟨rfl, b8⟩
 have s8 := b8.size
 replace hw := hw.trans (b8.mono hw.size)
 replace f2 := f2.u b8
 refine wl_p (fun _ => o_assign rfl) ?_
 refine wl_nil ?_
 refine ret1 rfl rfl ?_
 exact ⟨rfl, hw⟩
theorem C_bsI {A : Option Addr} {I : List (By × By)} {P : Option Addr} {p : By} {n c q e : Nat} (w : World) (hA : RI w A I) (hP : Rd w P p) (hq : q = p.length) (hl2 : p.length ≤ 4000000) (hn : n = I.length) (hl : I.length ≤ 4000000) (hL : LtI I) (hs : Srt (I.map Prod.fst)) :
  CallsR Tryz.prog 90 [.slice A n c, .slice P q e, .func (.func 91) #[] #[]] w fun v w' => v = .tuple #[.int .i64 (low (I.map Prod.fst) p : Nat), .bool (decide (p ∈ I.map Prod.fst))] ∧ Below w.heap.size w w' := by
 obtain ⟨L, hLL⟩ : ∃ L, I.map Prod.fst = L := ⟨_, rfl⟩
 rw [hLL] at hs ⊢
 have hLn : L.length = I.length := by rw [← hLL, List.length_map]
 have hLg : ∀ j (h : j < I.length), L[j]'(by omega) = I[j].1 := fun j h => by subst hLL; rw [List.getElem_map]
 subst hn; subst hq
 refine callsR Tryz.func90 rfl rfl (by kernel_rfl) rfl ?_
 have hw := Below.refl w.heap.size w
 refine rk_seq ?_
 refine rk_region ?_
 refine wl_p (fun _ => o_assign rfl) ?_
 refine wl_p (fun _ => o_assign rfl) ?_
 refine wl_nil ?_
 refine rk_seq ?_
 refine rk_region ?_
 refine wl_p (fun _ => o_move rfl) ?_
 refine wl_p (fun _ => o_len (t := 28) Tryz.underlying28 rfl) ?_
 refine wl_p (fun _ => o_assign rfl) ?_
 refine wl_nil ?_
 refine rk_seq ?_
 refine rk_region ?_
 refine wl_p (fun _ => o_move rfl) ?_
 refine wl_p (fun _ => o_assign rfl) ?_
 refine wl_p (fun _ => o_assign rfl) ?_
 refine wl_nil ?_
 refine rk_seq ?_
 refine rk_block ?_
 refine rk_joinf (fun fb fr w2 => ∃ (i : Nat) (v : Int), fr = [(9, .int .i64 v), (10, .int .i64 v)] ++ fb.drop 2 ∧ v = i ∧ i ≤ I.length ∧ (∀ j (h : j < L.length), j < i → cmpL L[j] p < 0) ∧ (∀ j (h : j < L.length), i ≤ j → 0 ≤ cmpL L[j] p) ∧ Below w.heap.size w w2) ?_ (fun ks hj => ?_)
 rotate_left
 ·refine rk_loopf (fun fb m fr w2 => ∃ (i k : Nat) (v v2 : Int), fr = [(9, .int .i64 v), (10, .int .i64 v2)] ++ fb.drop 2 ∧ v = i ∧ v2 = k ∧ i ≤ k ∧ k ≤ I.length ∧ m = k - i ∧ (∀ j (h : j < L.length), j < i → cmpL L[j] p < 0) ∧ (∀ j (h : j < L.length), k ≤ j → 0 ≤ cmpL L[j] p) ∧ Below w.heap.size w w2) (n := I.length) (Fr.le_of (by kernel_rfl) (by kernel_rfl) (by repeat' constructor)) ⟨0, I.length, _, _, rfl, rfl, rfl, by omega, Nat.le_refl _, rfl, fun j _ h => absurd h (Nat.not_lt_zero _), fun j h h2 => absurd h (by omega), hw⟩ ?_
  clear hw
  rintro m fr w2 ⟨i, k, v, v2, rfl, rfl, rfl, hik, hk, rfl, h1, h2, hw⟩
  have shw := hw.size
  first | refine rk_frame (by simp only [List.cons_append, List.nil_append, List.drop_succ_cons, List.drop_zero]; rfl) ?_ | refine wl_frame (by simp only [List.cons_append, List.nil_append, List.drop_succ_cons, List.drop_zero]; rfl) ?_
  refine rk_seq ?_
  refine rk_seq ?_
  refine rk_region ?_
  refine wl_p (fun _ => o_move rfl) ?_
  refine wl_p (fun _ => o_move rfl) ?_
  refine wl_p (fun _ => o_lt rfl rfl) ?_
  refine wl_nil ?_
  refine rk_if rfl (fun h17 => ?_) (fun h17 => ?_)
  ·refine rk_skip ?_
   refine rk_block ?_
   refine rk_seq ?_
   refine rk_region ?_
   refine wl_p (fun _ => o_move rfl) ?_
   refine wl_p (fun _ => o_move rfl) ?_
   refine wl_p (fun _ => o_add rfl rfl (by omega) (by omega)) ?_
   refine wl_p (fun _ => o_convu64 (src := 3) (dst := 102) Tryz.underlying3 Tryz.underlying102 rfl (by omega) (by omega)) ?_
   refine wl_p (fun _ => o_shr rfl rfl (by omega)) ?_
   obtain ⟨h, hhd⟩ : ∃ h, (i + k) / 2 = h := ⟨_, rfl⟩
   rw [show ((i : Int) + (k : Int)) / 2 ^ min (Int.toNat 1) IntKind.u64.bits = (h : Int) by
    show ((i : Int) + (k : Int)) / 2 = _
    omega]
   have hhl : h < I.length := by omega
   have hg := hLg h hhl
   refine wl_p (fun _ => o_convi64 (src := 102) (dst := 3) Tryz.underlying102 Tryz.underlying3 rfl (by omega) (by omega)) ?_
   refine wl_p (fun _ => o_assign rfl) ?_
   refine wl_nil ?_
   refine rk_seq ?_
   refine rk_region ?_
   refine wl_p (fun _ => o_move rfl) ?_
   refine wl_p (fun _ => o_move rfl) ?_
   refine wl_p (fun _ => o_move rfl) ?_
   refine wl_p (fun _ => (o_iaddrA (h) Tryz.underlying28 Tryz.sizeOf94 rfl rfl rfl (hA.some_ (by omega)) (by omega))) ?_
   refine wl_ldItem rfl hA hw (by omega) ?_
   rintro A128 c128 A228 c228 f28 f28_1 i28 i28_1
   refine wl_p (fun _ => o_move rfl) ?_
   refine wl_callf (xs := [_, _]) (cs := []) rfl rfl (C_find1 _ (f28.below hw) (hP.below hw) rfl rfl (hL _ (List.getElem_mem hhl)).1 hl2) ?_
   rintro _ w30 ⟨rfl, b30⟩
   have sb30 := b30.size
   replace hw := hw.trans (b30.mono hw.size)
   refine wl_p (fun _ => o_lt rfl rfl) ?_
   refine wl_nil ?_
   refine rk_if rfl (fun h31 => ?_) (fun h31 => ?_)
   ·refine rk_region ?_
    refine wl_p (fun _ => o_move rfl) ?_
    refine wl_p (fun _ => o_add rfl rfl (by omega) (by omega)) ?_
    refine wl_p (fun _ => o_assign rfl) ?_
    refine wl_nil ?_
    refine rk_blk ?_
    exact rk_againf (Fr.le_of (by kernel_rfl) (by kernel_rfl) (by repeat' constructor)) ⟨h + 1, k, (h : Int) + 1, _, rfl, by omega, rfl, by omega, by omega, rfl, below_all hs (by omega) (by rw [hg]; exact h31), h2, hw⟩ (by omega)
   ·refine rk_region ?_
    refine wl_p (fun _ => o_move rfl) ?_
    refine wl_p (fun _ => o_assign rfl) ?_
    refine wl_nil ?_
    refine rk_blk ?_
    exact rk_againf (Fr.le_of (by kernel_rfl) (by kernel_rfl) (by repeat' constructor)) ⟨i, h, _, _, rfl, rfl, rfl, by omega, by omega, rfl, h1, above_all hs (by omega) (by rw [hg]; omega), hw⟩ (by omega)
  ·refine rk_exit rfl ?_
   obtain rfl : i = k := by omega
   exact rk_tof hj (Fr.le_of (by kernel_rfl) (by kernel_rfl) (by repeat' constructor)) ⟨i, _, rfl, rfl, by omega, h1, h2, hw⟩
 clear hw
 rintro fr w2 ⟨i, v, rfl, rfl, hi, h1, h2, hw⟩
 have shw := hw.size
 rw [low_eq (by omega) h1 h2]
 have hhas := has_eq hs h1 h2
 first | refine rk_frame (by simp only [List.cons_append, List.nil_append, List.drop_succ_cons, List.drop_zero]; rfl) ?_ | refine wl_frame (by simp only [List.cons_append, List.nil_append, List.drop_succ_cons, List.drop_zero]; rfl) ?_
 by_cases hil : i < I.length
 ·have hg := hLg i hil
  refine rk_seq ?_
  refine rk_region ?_
  refine wl_p (fun _ => o_move rfl) ?_
  refine wl_p (fun _ => o_move rfl) ?_
  refine wl_p (fun _ => o_move rfl) ?_
  refine wl_p (fun _ => o_lt rfl rfl) ?_
  refine wl_p (fun _ => o_move rfl) ?_
  refine wl_know 39 true rfl (decide_eq_true (by omega)) ?_
  refine wl_p (fun _ => o_move rfl) ?_
  refine wl_p (fun _ => o_move rfl) ?_
  refine wl_p (fun _ => o_move rfl) ?_
  refine wl_p (fun _ => (o_iaddrA (i) Tryz.underlying28 Tryz.sizeOf94 rfl rfl rfl (hA.some_ (by omega)) (by omega))) ?_
  refine wl_ldItem rfl hA hw (by omega) ?_
  rintro A144 c144 A244 c244 f44 f44_1 i44 i44_1
  refine wl_p (fun _ => o_move rfl) ?_
  refine wl_callf (xs := [_, _]) (cs := []) rfl rfl (C_find1 _ (f44.below hw) (hP.below hw) rfl rfl (hL _ (List.getElem_mem hil)).1 hl2) ?_
  rintro _ w46 ⟨rfl, b46⟩
  have sb46 := b46.size
  replace hw := hw.trans (b46.mono hw.size)
  refine wl_p (fun _ => o_eq rfl rfl) ?_
  refine wl_p (fun _ => o_pick_t rfl rfl) ?_
  refine wl_p (fun _ => o_assign rfl) ?_
  refine wl_p (fun _ => o_assign rfl) ?_
  refine wl_nil ?_
  refine ret2 rfl rfl rfl ?_
  refine ⟨?_, hw⟩
  rw [decide_eq_decide.2 (show cmpL I[i].1 p = 0 ↔ p ∈ L by rw [hhas, ← hg]; exact ⟨fun h => ⟨by omega, h⟩, fun h => h.2⟩)]
 ·refine rk_seq ?_
  refine rk_region ?_
  refine wl_p (fun _ => o_move rfl) ?_
  refine wl_p (fun _ => o_move rfl) ?_
  refine wl_p (fun _ => o_move rfl) ?_
  refine wl_p (fun _ => o_lt rfl rfl) ?_
  refine wl_p (fun _ => o_move rfl) ?_
  refine wl_know 39 false rfl (decide_eq_false (by omega)) ?_
  refine wl_off ?_
  refine wl_off ?_
  refine wl_off ?_
  refine wl_off ?_
  refine wl_off ?_
  refine wl_off ?_
  refine wl_off ?_
  refine wl_off ?_
  refine wl_p (fun _ => o_pick_f rfl rfl) ?_
  refine wl_p (fun _ => o_assign rfl) ?_
  refine wl_p (fun _ => o_assign rfl) ?_
  refine wl_nil ?_
  refine ret2 rfl rfl rfl ?_
  refine ⟨?_, hw⟩
  rw [decide_eq_false (show ¬ p ∈ L by rw [hhas]; exact fun h => hil (by have := h.1; omega))]
theorem C_bsK {A : Option Addr} {I : List Ky} {u : Ky} {n c : Nat} (w : World) (hA : RKs w A I) (hn : n = I.length) (hl : I.length ≤ 4000000) (hs : Srt (I.map Subtype.val)) :
  CallsR Tryz.prog 164 [.slice A n c, .agg (B8 u.1).toArray, .func (.func 88) #[] #[]] w fun v w' => v = .tuple #[.int .i64 (low (I.map Subtype.val) u.1 : Nat), .bool (decide (u.1 ∈ I.map Subtype.val))] ∧ Below w.heap.size w w' := by
 obtain ⟨L, hLL⟩ : ∃ L, I.map Subtype.val = L := ⟨_, rfl⟩
 rw [hLL] at hs ⊢
 have hLn : L.length = I.length := by rw [← hLL, List.length_map]
 have hLg : ∀ j (h : j < I.length), L[j]'(by omega) = I[j].1 := fun j h => by subst hLL; rw [List.getElem_map]
 subst hn
 refine callsR Tryz.func164 rfl rfl (by kernel_rfl) rfl ?_
 have hw := Below.refl w.heap.size w
 refine rk_seq ?_
 refine rk_region ?_
 refine wl_boxg _ rfl (by rfl) ?_
 rintro g4 w4 f4 b4 i4 i4_1
 have s4 := b4.size
 replace hw := hw.trans (b4.mono hw.size)
 refine wl_p (fun _ => o_assign rfl) ?_
 refine wl_p (fun _ => o_assign rfl) ?_
 refine wl_nil ?_
 refine rk_seq ?_
 refine rk_region ?_
 refine wl_p (fun _ => o_move rfl) ?_
 refine wl_p (fun _ => o_len (t := 29) Tryz.underlying29 rfl) ?_
 refine wl_p (fun _ => o_assign rfl) ?_
 refine wl_nil ?_
 refine rk_seq ?_
 refine rk_region ?_
 refine wl_p (fun _ => o_move rfl) ?_
 refine wl_p (fun _ => o_assign rfl) ?_
 refine wl_p (fun _ => o_assign rfl) ?_
 refine wl_nil ?_
 refine rk_seq ?_
 refine rk_block ?_
 refine rk_joinf (fun fb fr w2 => ∃ (i : Nat) (v : Int), fr = [(9, .int .i64 v), (10, .int .i64 v)] ++ fb.drop 2 ∧ v = i ∧ i ≤ I.length ∧ (∀ j (h : j < L.length), j < i → cmpL L[j] u.1 < 0) ∧ (∀ j (h : j < L.length), i ≤ j → 0 ≤ cmpL L[j] u.1) ∧ Blk w2 g4 42 (B8 u.1) ∧ w4.heap.size ≤ w2.heap.size ∧ Below w.heap.size w w2) ?_ (fun ks hj => ?_)
 rotate_left
 ·refine rk_loopf (fun fb m fr w2 => ∃ (i k : Nat) (v v2 : Int), fr = [(9, .int .i64 v), (10, .int .i64 v2)] ++ fb.drop 2 ∧ v = i ∧ v2 = k ∧ i ≤ k ∧ k ≤ I.length ∧ m = k - i ∧ (∀ j (h : j < L.length), j < i → cmpL L[j] u.1 < 0) ∧ (∀ j (h : j < L.length), k ≤ j → 0 ≤ cmpL L[j] u.1) ∧ Blk w2 g4 42 (B8 u.1) ∧ w4.heap.size ≤ w2.heap.size ∧ Below w.heap.size w w2) (n := I.length) (Fr.le_of (by kernel_rfl) (by kernel_rfl) (by repeat' constructor)) ⟨0, I.length, _, _, rfl, rfl, rfl, by omega, Nat.le_refl _, rfl, fun j _ h => absurd h (Nat.not_lt_zero _), fun j h h2 => absurd h (by omega), f4, Nat.le_refl _, hw⟩ ?_
  clear hw f4
  rintro m fr w2 ⟨i, k, v, v2, rfl, rfl, rfl, hik, hk, rfl, h1, h2, f4, hsz, hw⟩
  have shw := hw.size
  first | refine rk_frame (by simp only [List.cons_append, List.nil_append, List.drop_succ_cons, List.drop_zero]; rfl) ?_ | refine wl_frame (by simp only [List.cons_append, List.nil_append, List.drop_succ_cons, List.drop_zero]; rfl) ?_
  refine rk_seq ?_
  refine rk_seq ?_
  refine rk_region ?_
  refine wl_p (fun _ => o_move rfl) ?_
  refine wl_p (fun _ => o_move rfl) ?_
  refine wl_p (fun _ => o_lt rfl rfl) ?_
  refine wl_nil ?_
  refine rk_if rfl (fun h17 => ?_) (fun h17 => ?_)
  ·refine rk_skip ?_
   refine rk_block ?_
   refine rk_seq ?_
   refine rk_region ?_
   refine wl_p (fun _ => o_move rfl) ?_
   refine wl_p (fun _ => o_move rfl) ?_
   refine wl_p (fun _ => o_add rfl rfl (by omega) (by omega)) ?_
   refine wl_p (fun _ => o_convu64 (src := 3) (dst := 102) Tryz.underlying3 Tryz.underlying102 rfl (by omega) (by omega)) ?_
   refine wl_p (fun _ => o_shr rfl rfl (by omega)) ?_
   obtain ⟨h, hhd⟩ : ∃ h, (i + k) / 2 = h := ⟨_, rfl⟩
   rw [show ((i : Int) + (k : Int)) / 2 ^ min (Int.toNat 1) IntKind.u64.bits = (h : Int) by
    show ((i : Int) + (k : Int)) / 2 = _
    omega]
   have hhl : h < I.length := by omega
   have hg := hLg h hhl
   refine wl_p (fun _ => o_convi64 (src := 102) (dst := 3) Tryz.underlying102 Tryz.underlying3 rfl (by omega) (by omega)) ?_
   refine wl_p (fun _ => o_assign rfl) ?_
   refine wl_nil ?_
   refine rk_seq ?_
   refine rk_draw (id := 5) (none) [0, 0, 0, 6, 8, 0, 49, 64] [0, 0, 0, 6, 14, 0, 63, 127] 64 0 [(.p, 0), (.p, 1), (.p, 2), (.p, 3), (.r, 4), (.r, 5), (.l, 6), (.p, 7)] (by kernel_rfl) (by kernel_rfl) (by kernel_rfl) (by kernel_rfl) (by kernel_rfl) ?_
   replace hw := hw.drew
   replace f4 := f4.d
   refine wl_p (fun _ => o_move rfl) ?_
   refine wl_p (fun _ => o_move rfl) ?_
   refine wl_p (fun _ => o_move rfl) ?_
   refine wl_p (fun _ => (o_iaddrA (h) Tryz.underlying29 Tryz.sizeOf42 rfl rfl rfl (hA.some_ (by omega)) (by omega))) ?_
   refine wl_r (o_ldKs rfl hA hw (by omega)) ?_
   refine wl_r (o_ldKyB rfl f4) ?_
   refine wl_callf (xs := [_, _]) (cs := []) rfl rfl (C_opsCompare _) ?_
   rintro _ w30 ⟨rfl, b30⟩
   have sb30 := b30.size
   simp only [drew_size] at sb30
   replace hw := hw.trans (b30.mono hw.size)
   replace f4 := f4.u b30
   refine wl_p (fun _ => o_lt rfl rfl) ?_
   refine wl_nild ?_
   refine rk_if rfl (fun h31 => ?_) (fun h31 => ?_)
   ·refine rk_region ?_
    refine wl_p (fun _ => o_move rfl) ?_
    refine wl_p (fun _ => o_add rfl rfl (by omega) (by omega)) ?_
    refine wl_p (fun _ => o_assign rfl) ?_
    refine wl_nil ?_
    refine rk_blk ?_
    exact rk_againf (Fr.le_of (by kernel_rfl) (by kernel_rfl) (by repeat' constructor)) ⟨h + 1, k, (h : Int) + 1, _, rfl, by omega, rfl, by omega, by omega, rfl, below_all hs (by omega) (by rw [hg]; exact h31), h2, f4, by first | omega | (simp only [drew_size]; omega), hw⟩ (by omega)
   ·refine rk_region ?_
    refine wl_p (fun _ => o_move rfl) ?_
    refine wl_p (fun _ => o_assign rfl) ?_
    refine wl_nil ?_
    refine rk_blk ?_
    exact rk_againf (Fr.le_of (by kernel_rfl) (by kernel_rfl) (by repeat' constructor)) ⟨i, h, _, _, rfl, rfl, rfl, by omega, by omega, rfl, h1, above_all hs (by omega) (by rw [hg]; omega), f4, by first | omega | (simp only [drew_size]; omega), hw⟩ (by omega)
  ·refine rk_exit rfl ?_
   obtain rfl : i = k := by omega
   exact rk_tof hj (Fr.le_of (by kernel_rfl) (by kernel_rfl) (by repeat' constructor)) ⟨i, _, rfl, rfl, by omega, h1, h2, f4, by first | omega | (simp only [drew_size]; omega), hw⟩
 clear hw f4
 rintro fr w2 ⟨i, v, rfl, rfl, hi, h1, h2, f4, hsz, hw⟩
 have shw := hw.size
 rw [low_eq (by omega) h1 h2]
 have hhas := has_eq hs h1 h2
 first | refine rk_frame (by simp only [List.cons_append, List.nil_append, List.drop_succ_cons, List.drop_zero]; rfl) ?_ | refine wl_frame (by simp only [List.cons_append, List.nil_append, List.drop_succ_cons, List.drop_zero]; rfl) ?_
 by_cases hil : i < I.length
 ·have hg := hLg i hil
  refine rk_seq ?_
  refine rk_draw (id := 8) (none) [0, 0, 0, 6, 8, 16, 16, 16, 208, 272, 16, 1584, 2064, 4112, 2049, 32767] [0, 0, 0, 6, 14, 30, 30, 30, 222, 478, 30, 2046, 4094, 8190, 4095, 32767] 2048 0 [(.p, 0), (.p, 1), (.p, 2), (.p, 3), (.p, 4), (.p, 5), (.p, 6), (.p, 7), (.p, 8), (.r, 9), (.r, 10), (.l, 11), (.p, 12), (.p, 13), (.p, 14), (.p, 15)] (by kernel_rfl) (by kernel_rfl) (by kernel_rfl) (by kernel_rfl) (by kernel_rfl) ?_
  replace hw := hw.drew
  replace f4 := f4.d
  refine wl_p (fun _ => o_move rfl) ?_
  refine wl_p (fun _ => o_move rfl) ?_
  refine wl_p (fun _ => o_move rfl) ?_
  refine wl_p (fun _ => o_lt rfl rfl) ?_
  refine wl_p (fun _ => o_move rfl) ?_
  refine wl_know 39 true rfl (decide_eq_true (by omega)) ?_
  refine wl_p (fun _ => o_move rfl) ?_
  refine wl_p (fun _ => o_move rfl) ?_
  refine wl_p (fun _ => o_move rfl) ?_
  refine wl_p (fun _ => (o_iaddrA (i) Tryz.underlying29 Tryz.sizeOf42 rfl rfl rfl (hA.some_ (by omega)) (by omega))) ?_
  refine wl_r (o_ldKs rfl hA hw (by omega)) ?_
  refine wl_r (o_ldKyB rfl f4) ?_
  refine wl_callf (xs := [_, _]) (cs := []) rfl rfl (C_opsCompare _) ?_
  rintro _ w46 ⟨rfl, b46⟩
  have sb46 := b46.size
  simp only [drew_size] at sb46
  replace hw := hw.trans (b46.mono hw.size)
  replace f4 := f4.u b46
  refine wl_p (fun _ => o_eq rfl rfl) ?_
  refine wl_p (fun _ => o_pick_t rfl rfl) ?_
  refine wl_p (fun _ => o_assign rfl) ?_
  refine wl_p (fun _ => o_assign rfl) ?_
  refine wl_nild ?_
  refine ret2 rfl rfl rfl ?_
  refine ⟨?_, hw⟩
  rw [decide_eq_decide.2 (show cmpL I[i].1 u.1 = 0 ↔ u.1 ∈ L by rw [hhas, ← hg]; exact ⟨fun h => ⟨by omega, h⟩, fun h => h.2⟩)]
 ·refine rk_seq ?_
  refine rk_draw (id := 8) (none) [0, 0, 0, 6, 8, 16, 16, 16, 208, 272, 16, 1584, 2064, 4112, 2049, 32767] [0, 0, 0, 6, 14, 30, 30, 30, 222, 478, 30, 2046, 4094, 8190, 4095, 32767] 2048 0 [(.p, 0), (.p, 1), (.p, 2), (.p, 3), (.p, 4), (.p, 5), (.p, 6), (.p, 7), (.p, 8), (.r, 9), (.r, 10), (.l, 11), (.p, 12), (.p, 13), (.p, 14), (.p, 15)] (by kernel_rfl) (by kernel_rfl) (by kernel_rfl) (by kernel_rfl) (by kernel_rfl) ?_
  replace hw := hw.drew
  replace f4 := f4.d
  refine wl_p (fun _ => o_move rfl) ?_
  refine wl_p (fun _ => o_move rfl) ?_
  refine wl_p (fun _ => o_move rfl) ?_
  refine wl_p (fun _ => o_lt rfl rfl) ?_
  refine wl_p (fun _ => o_move rfl) ?_
  refine wl_know 39 false rfl (decide_eq_false (by omega)) ?_
  refine wl_off ?_
  refine wl_off ?_
  refine wl_off ?_
  refine wl_off ?_
  refine wl_off ?_
  refine wl_off ?_
  refine wl_off ?_
  refine wl_off ?_
  refine wl_p (fun _ => o_pick_f rfl rfl) ?_
  refine wl_p (fun _ => o_assign rfl) ?_
  refine wl_p (fun _ => o_assign rfl) ?_
  refine wl_nild ?_
  refine ret2 rfl rfl rfl ?_
  refine ⟨?_, hw⟩
  rw [decide_eq_false (show ¬ u.1 ∈ L by rw [hhas]; exact fun h => hil (by have := h.1; omega))]
end Go.Proofs.YtahkeoegbjopfaaGreat
/-
  Walks of package ops: find, Get, clone.
-/
namespace Go.Proofs.YtahkeoegbjopfaaGreat
set_option maxRecDepth 100000
open Go.RowKit
section
variable {α : Type} {X : GoT α} {P : Program} {fn : Func} {F : Ending → World → Prop} {N : Nat} {ks : List K} {ops : Array Oper} {tg : Tags} {l : List Oper} {fr : Fr} {w : World} {ty t e : TypeId} {z : Value} {pos : String} {aft : Array Edge} {gd : Option (Nat × Bool)} {d n sz bytes c j q lo hi : Nat} {x y : Operand} {A B : Option Addr} {L M : List α}
theorem wl_appSR (T : RowT P t e z X.sz bytes) (hx : fr.ev x = some (.slice A n c)) (hown : OwnS X e w lo hi A c L) (hn : n = L.length) (hy : fr.ev y = some (.slice B j q)) (hr : ∃ ms, Reads w X.sz B M.length ms ∧ ∀ i (h : i < M.length), X.T w (part ms X.sz i) M[i]) (hj : j = M.length) (hne : e ∉ X.tys) (h1 : ∀ w cs a, X.T w cs a → ∀ u ∈ cs, u.oneCell' = true) (hlen : (L.length + M.length) * bytes ≤ 140737488355328) (hmx : L.length + M.length ≤ 1000000000) (hB : lo ≤ w.heap.size)
  (h : ∀ A' c' w', OwnS X e w' lo w'.heap.size A' c' (L ++ M) → Grew w w' e (blk A) → Below lo w w' → (blk A' = blk A ∨ blk A' = some w.heap.size) → WL P fn F N ks ops tg.tail l ((d, .slice A' (L ++ M).length c') :: fr) w')
  (ht : tg.loud = true := by rfl) (hg : onG ops fr gd = true := by rfl) (hd : Nat.blt d N = true := by rfl) (hq : tg.calm = false ∨ blk A = none ∨ blk A = tg.row := by exact .inl rfl) :
  WL P fn F N ks ops tg (⟨some d, .call { callee := .builtin .append, args := #[x, y], argTypes := #[t, t] }, ty, pos, aft, gd⟩ :: l) fr w := by
 subst hn; subst hj
 obtain ⟨xs, g1, g2⟩ := hown
 obtain ⟨ms, r1, r3⟩ := hr
 have hxl : xs.length = L.length * X.sz := g1.rd.1
 have hml : ms.length = M.length * X.sz := r1.1
 refine wl_appR T hx g1 hy r1 (fun u hu => ?_) (by simp only [maxLen]; omega) hlen hB (fun A' c' w' k1 k2 k3 k4 => ?_) ht hg hd hq
 ·obtain ⟨i, hi, rfl⟩ := List.getElem_of_mem hu
  have h0 := T.h0
  have hq : i / X.sz < M.length := (Nat.div_lt_iff_lt_mul h0).2 (by omega)
  refine h1 _ _ _ (r3 _ hq) _ (List.mem_of_getElem? (i := i % X.sz) ?_)
  rw [part_get (Nat.mod_lt _ h0), Nat.div_add_mod' i X.sz]
  exact List.getElem?_eq_getElem hi
 ·have e2 : (L ++ M).length = L.length + M.length := List.length_append
  rw [← e2] at k1 ⊢
  refine h A' c' w' ⟨_, k1, fun i hi => ?_⟩ k2 k3 k4
  rcases Nat.lt_or_ge i L.length with hl | hl
  ·rw [part_append_lt hxl hl, List.getElem_append_left hl]
   exact X.ty (g2 i hl) k2 hne
  ·rw [List.getElem_append_right hl]
   have hi2 : i - L.length < M.length := by rw [e2] at hi; omega
   have := X.ty (r3 _ hi2) k2 hne
   have e3 : part (xs ++ ms) X.sz i = part ms X.sz (i - L.length) := by
    unfold part
    rw [show i * X.sz = xs.length + (i - L.length) * X.sz by rw [hxl, ← Nat.add_mul]; congr 1; omega, ← List.drop_drop, List.drop_left]
   rw [e3]; exact this
end
section
variable {fn : Func} {F : Ending → World → Prop} {N : Nat} {ks : List K} {ops : Array Oper} {tg : Tags} {l : List Oper} {fr : Fr} {w w0 : World} {ty t' : TypeId} {pos : String} {aft : Array Edge} {gd : Option (Nat × Bool)} {k1 k2 : IntKind} {d n j q c lo hi : Nat} {x y : Operand} {A B : Option Addr} {S M : List Ky} {C : Int}
theorem wl_appKsR (hx : fr.ev x = some (.slice A n c)) (hown : OwnKs w lo hi A c S) (hn : n = S.length) (hy : fr.ev y = some (.slice B j q)) (hr : RKs w0 B M) (hb : Below w0.heap.size w0 w) (hj : j = M.length) (hlen : S.length + M.length ≤ 1000000) (hB : lo ≤ w.heap.size)
  (h : ∀ A' c' w', OwnKs w' lo w'.heap.size A' c' (S ++ M) → Grew w w' 42 (blk A) → Below lo w w' → WL Tryz.prog fn F N ks ops tg.tail l ((d, .slice A' (S ++ M).length c') :: fr) w')
  (ht : tg.loud = true := by rfl) (hg : onG ops fr gd = true := by rfl) (hd : Nat.blt d N = true := by rfl) (hq : tg.calm = false ∨ blk A = none ∨ blk A = tg.row := by exact .inl rfl) :
  WL Tryz.prog fn F N ks ops tg (⟨some d, .call { callee := .builtin .append, args := #[x, y], argTypes := #[29, 29] }, ty, pos, aft, gd⟩ :: l) fr w :=
 wl_appSR (X := gArr 32) Tryz.rowKs hx hown hn hy (hr.u hb) hj (by simp [gArr_tys]) gKey_one (by have := Nat.mul_le_mul_right 32 hlen; omega) (by omega) hB (fun A' c' w' h1 h2 h3 _ => h A' c' w' h1 h2 h3) ht hg hd hq
theorem wl_mkI (n : Nat) (hx : fr.ev x = some (.int k1 0)) (hy : fr.ev y = some (.int k2 C)) (hC : C = (n : Int)) (hn : n ≤ 1000000)
  (hk : ∀ A w', OwnI w' w.heap.size w'.heap.size A n [] → Below w.heap.size w w' → WL Tryz.prog fn F N ks ops tg.tail l ((d, .slice A 0 n) :: fr) w')
  (ht : tg.loud = true := by rfl) (hg : onG ops fr gd = true := by rfl) (hd : Nat.blt d N = true := by rfl) : WL Tryz.prog fn F N ks ops tg (⟨some d, .makeSlice 28 x y, ty, pos, aft, gd⟩ :: l) fr w := by
 subst hC
 obtain ⟨i, hi, hz, hs, hb⟩ := info_parts Tryz.rowItem.hi
 obtain ⟨w', hrun, r1, r2⟩ := run_make_own (P := Tryz.prog) w w.heap.size 28 94 i _ 2 Tryz.rowItem.ht hi hz hs k1 k2 n (by rw [hb]; omega) (by simp only [maxLen]; omega) (Nat.le_refl _)
 have hbl : Below w.heap.size w w' := (Below.refl _ _).grown r2 (Nat.le_refl _) (by simp)
 have ho : OwnI w' w.heap.size w'.heap.size (some ⟨w.heap.size, 0, none⟩) n [] := ⟨[], ⟨r1, fun b hb => (World.ownsRow.lt r1 b (by rw [blk_own]; exact hb)).2⟩, fun i h => absurd h (Nat.not_lt_zero _)⟩
 exact wl_v (fun a ha o ho _ => by simp [execOp, ho, ha.ev hx, ha.ev hy, hrun]) (hk _ w' ho hbl) ht hg hd (.inr (grown_of_below hbl _))
end
theorem C_find {A P : Option Addr} {I : List (By × By)} {p : By} {n c q e : Nat} (w : World) (hA : RI w A I) (hP : Rd w P p) (hn : n = I.length) (hq : q = p.length) (hl : I.length ≤ 4000000) (hl2 : p.length ≤ 4000000) (hL : LtI I) (hs : Srt (I.map Prod.fst)) :
  CallsR Tryz.prog 48 [.slice A n c, .slice P q e] w fun v w' => v = .tuple #[.int .i64 (low (I.map Prod.fst) p : Nat), .bool (decide (p ∈ I.map Prod.fst))] ∧ Below w.heap.size w w' := by
 subst hn; subst hq
 refine callsR Tryz.func48 rfl rfl (by kernel_rfl) rfl ?_
 have hw := Below.refl w.heap.size w
 refine rk_seq ?_
 refine rk_region ?_
 refine wl_p (fun _ => o_assign rfl) ?_
 refine wl_p (fun _ => o_assign rfl) ?_
 refine wl_nil ?_
 refine rk_seq ?_
 refine rk_region ?_
 refine wl_p (fun _ => o_move rfl) ?_
 refine wl_p (fun _ => o_move rfl) ?_
 refine wl_call rfl (C_bsI _ hA hP rfl (by omega) rfl (by omega) (by omega) (by omega)) ?_
 rintro v8 w8 ⟨rfl, b8⟩
 have s8 := b8.size
 replace hw := hw.trans (b8.mono hw.size)
 refine wl_p (fun _ => o_ext20 rfl) ?_
 refine wl_p (fun _ => o_ext21 rfl) ?_
 refine wl_p (fun _ => o_assign rfl) ?_
 refine wl_p (fun _ => o_assign rfl) ?_
 refine wl_nil ?_
 refine ret2 rfl rfl rfl ?_
 exact ⟨rfl, hw⟩
set_option maxRecDepth 100000 in
theorem C_sClone {A : Option Addr} {p : By} {n c : Nat} (w : World) (hp : Rd w A p) (hn : n = p.length) (hl : p.length ≤ 4000000000) :
  CallsR Tryz.prog 49 [.slice A n c] w fun v w' => ∃ A' c', v = .slice A' p.length c' ∧ OwnH w' w.heap.size w'.heap.size A' c' p ∧ Below w.heap.size w w' := by
 subst hn
 rcases A with _ | ad
 ·obtain rfl : p = [] := by
   rcases p with _ | ⟨a, p⟩
   ·rfl
   ·obtain ⟨_, _, e, _⟩ := hp.2 (by simp [B8]); cases e
  refine callsR Tryz.func49 rfl rfl (by kernel_rfl) rfl ?_
  have hw := Below.refl w.heap.size w
  refine rk_seq ?_
  refine rk_region ?_
  refine wl_p (fun _ => o_assign rfl) ?_
  refine wl_nil ?_
  refine rk_seq ?_
  refine rk_seq ?_
  refine rk_region ?_
  refine wl_p (fun _ => o_move rfl) ?_
  refine wl_p (fun _ => (o_sleqN Tryz.underlying39 rfl rfl)) ?_
  refine wl_nil ?_
  refine rk_true rfl ?_
  refine rk_seq ?_
  refine rk_region ?_
  refine wl_p (fun _ => o_assign rfl) ?_
  refine wl_nil ?_
  refine ret1 rfl rfl ?_
  exact ⟨none, 0, rfl, OwnH.nil_, hw⟩
 ·refine callsR Tryz.func49 rfl rfl (by kernel_rfl) rfl ?_
  have hw := Below.refl w.heap.size w
  refine rk_seq ?_
  refine rk_region ?_
  refine wl_p (fun _ => o_assign rfl) ?_
  refine wl_nil ?_
  refine rk_seq ?_
  refine rk_seq ?_
  refine rk_region ?_
  refine wl_p (fun _ => o_move rfl) ?_
  refine wl_p (fun _ => (o_sleqN Tryz.underlying39 rfl rfl)) ?_
  refine wl_nil ?_
  refine rk_false rfl ?_
  refine rk_skip ?_
  refine rk_seq ?_
  refine rk_region ?_
  refine wl_litB [] Tryz.u8 Tryz.sizeOf5 Tryz.zeroValue5 (by rfl) rfl rfl (by rfl) (by rfl) (by rfl) ?_
  rintro A5 w5 f5 b5
  have qf5 := f5.cap
  have s5 := b5.size
  replace hw := hw.trans (b5.mono hw.size)
  refine wl_p (fun _ => o_move rfl) ?_
  refine wl_appB Tryz.u8 rfl f5 (by rfl) rfl (hp.u hw) rfl (by omega) hw.size ?_
  rintro A7 c7 w7 f7 g7 b7 i7
  have qf7 := f7.cap
  have s7 := g7.size
  replace hw := hw.trans (b7.mono (by omega))
  clear f5
  refine wl_p (fun _ => o_assign rfl) ?_
  refine wl_nil ?_
  rw [List.nil_append] at f7 ⊢
  refine ret1 rfl rfl ?_
  exact ⟨_, _, rfl, f7, hw⟩
set_option maxRecDepth 100000 in
theorem C_kClone {A : Option Addr} {L : List Ky} {n c : Nat} (w : World) (hp : RKs w A L) (hn : n = L.length) (hl : L.length ≤ 400000) :
  CallsR Tryz.prog 65 [.slice A n c] w fun v w' => ∃ A' c', v = .slice A' L.length c' ∧ OwnKs w' w.heap.size w'.heap.size A' c' L ∧ Below w.heap.size w w' := by
 subst hn
 rcases A with _ | ad
 ·obtain rfl : L = [] := by
   rcases L with _ | ⟨a, L⟩
   ·rfl
   ·have := hp.some_ (by simp); cases this
  refine callsR Tryz.func65 rfl rfl (by kernel_rfl) rfl ?_
  have hw := Below.refl w.heap.size w
  refine rk_seq ?_
  refine rk_region ?_
  refine wl_p (fun _ => o_assign rfl) ?_
  refine wl_nil ?_
  refine rk_seq ?_
  refine rk_seq ?_
  refine rk_region ?_
  refine wl_p (fun _ => o_move rfl) ?_
  refine wl_p (fun _ => (o_sleqN Tryz.underlying29 rfl rfl)) ?_
  refine wl_nil ?_
  refine rk_true rfl ?_
  refine rk_seq ?_
  refine rk_region ?_
  refine wl_p (fun _ => o_assign rfl) ?_
  refine wl_nil ?_
  refine ret1 rfl rfl ?_
  exact ⟨none, 0, rfl, OwnKs.nil_, hw⟩
 ·refine callsR Tryz.func65 rfl rfl (by kernel_rfl) rfl ?_
  have hw := Below.refl w.heap.size w
  refine rk_seq ?_
  refine rk_region ?_
  refine wl_p (fun _ => o_assign rfl) ?_
  refine wl_nil ?_
  refine rk_seq ?_
  refine rk_seq ?_
  refine rk_region ?_
  refine wl_p (fun _ => o_move rfl) ?_
  refine wl_p (fun _ => (o_sleqN Tryz.underlying29 rfl rfl)) ?_
  refine wl_nil ?_
  refine rk_false rfl ?_
  refine rk_skip ?_
  refine rk_seq ?_
  refine rk_region ?_
  refine wl_litKs0 (by rfl) rfl (by rfl) ?_
  rintro A5 w5 f5 b5
  have qf5 := f5.cap
  have s5 := b5.size
  replace hw := hw.trans (b5.mono hw.size)
  refine wl_p (fun _ => o_move rfl) ?_
  refine wl_appKsR rfl f5 (by rfl) rfl hp hw rfl (by omega) hw.size ?_
  rintro A7 c7 w7 f7 g7 b7
  have qf7 := f7.cap
  have s7 := g7.size
  replace hw := hw.trans (b7.mono (by omega))
  clear f5
  refine wl_p (fun _ => o_assign rfl) ?_
  refine wl_nil ?_
  rw [List.nil_append] at f7 ⊢
  refine ret1 rfl rfl ?_
  exact ⟨_, _, rfl, f7, hw⟩
set_option maxRecDepth 100000 in
theorem C_clone {A B C : Option Addr} {I : List (By × By)} {X Y : List Ky} {n c m d q e : Nat} (w : World) (hA : RI w A I) (hB : RKs w B X) (hC : RKs w C Y) (hn : n = I.length) (hm : m = X.length) (hq : q = Y.length) (hl : I.length ≤ 400000) (hl2 : X.length ≤ 400000) (hl3 : Y.length ≤ 400000) (hL : LtI I) :
  CallsR Tryz.prog 36 [.agg #[.slice A n c, .slice B m d, .slice C q e]] w fun v w' => ∃ A' c' B' d' C' e' m1 m2, v = .agg #[.slice A' I.length c', .slice B' X.length d', .slice C' Y.length e'] ∧ OwnI w' w.heap.size m1 A' c' I ∧ OwnKs w' m1 m2 B' d' X ∧ OwnKs w' m2 w'.heap.size C' e' Y ∧ w.heap.size ≤ m1 ∧ m1 ≤ m2 ∧ m2 ≤ w'.heap.size ∧ Below w.heap.size w w' := by
 subst hn; subst hm; subst hq
 refine callsR Tryz.func36 rfl rfl (by kernel_rfl) rfl ?_
 have hw := Below.refl w.heap.size w
 refine rk_seq ?_
 refine rk_region ?_
 refine wl_boxg [_, _, _] rfl (by rfl) ?_
 rintro g1 w1 f1 b1 i1 i1_1
 have s1 := b1.size
 replace hw := hw.trans (b1.mono hw.size)
 refine wl_allocg [_, _, _] Tryz.zeroValue31 (by rfl) ?_
 rintro g2 w2 f2 b2 i2 i2_1
 have s2 := b2.size
 replace hw := hw.trans (b2.mono hw.size)
 replace f1 := f1.u b2
 refine wl_nil ?_
 refine rk_seq ?_
 refine rk_region ?_
 refine wl_p (fun _ => o_faddr (s := 31) (i := 0) (off := 0) Tryz.underlying31 rfl Tryz.sizeOf28 rfl rfl rfl) ?_
 refine wl_r (o_loadbg Tryz.isAgg28 rfl f1 (by rfl)) ?_
 refine wl_p (fun _ => o_len (t := 28) Tryz.underlying28 rfl) ?_
 refine wl_mkI (I.length) rfl rfl rfl (by omega) ?_
 rintro A9 w9 f9 b9
 have qf9 := f9.cap
 have s9 := b9.size
 replace hw := hw.trans (b9.mono hw.size)
 replace f1 := f1.u b9
 replace f2 := f2.u b9
 refine wl_p (fun _ => o_assign rfl) ?_
 refine wl_nil ?_
 refine rk_seq ?_
 refine rk_seq ?_
 refine rk_region ?_
 refine wl_p (fun _ => o_faddr (s := 31) (i := 0) (off := 0) Tryz.underlying31 rfl Tryz.sizeOf28 rfl rfl rfl) ?_
 refine wl_r (o_loadbg Tryz.isAgg28 rfl f1 (by rfl)) ?_
 refine wl_p (fun _ => o_len (t := 28) Tryz.underlying28 rfl) ?_
 refine wl_p (fun _ => o_move rfl) ?_
 refine wl_nil ?_
 refine rk_block ?_
 refine rk_joinf (fun fb fr w3 => ∃ A' c', fr = [(3, .slice A' I.length c')] ++ fb.drop 1 ∧ OwnI w3 w.heap.size w3.heap.size A' c' I ∧ Blk w3 g1 31 [.slice A I.length c, .slice B X.length d, .slice C Y.length e] ∧ Blk w3 g2 31 [.slice none 0 0, .slice none 0 0, .slice none 0 0] ∧ w9.heap.size ≤ w3.heap.size ∧ Below w.heap.size w w3) ?_ (fun ks hj => ?_)
 rotate_left
 ·refine rk_loopf (fun fb k fr w3 => ∃ (i : Nat) (v : Int) (A' : Option Addr) (c' : Nat) (J : List (By × By)), fr = [(13, .int .i64 v), (3, .slice A' J.length c')] ++ fb.drop 1 ∧ v = i ∧ i ≤ I.length ∧ k = I.length - i ∧ J = I.take i ∧ OwnI w3 w.heap.size w3.heap.size A' c' J ∧ Blk w3 g1 31 [.slice A I.length c, .slice B X.length d, .slice C Y.length e] ∧ Blk w3 g2 31 [.slice none 0 0, .slice none 0 0, .slice none 0 0] ∧ w9.heap.size ≤ w3.heap.size ∧ Below w.heap.size w w3) (n := I.length) (Fr.le_of (by kernel_rfl) (by kernel_rfl) (by repeat' constructor)) ⟨0, _, A9, _, [], rfl, rfl, by omega, rfl, rfl, f9.base (by omega) (Nat.le_refl _), f1, f2, Nat.le_refl _, hw⟩ ?_
  clear hw f9 f1 f2
  rintro k fr w3 ⟨i, v, A', c', J, rfl, rfl, hi, rfl, hJ, fo, f1, f2, hsz, hw⟩
  have shw := hw.size
  have hJl : J.length = i := by rw [hJ, List.length_take]; omega
  first | refine rk_frame (by simp only [List.cons_append, List.nil_append, List.drop_succ_cons, List.drop_zero]; rfl) ?_ | refine wl_frame (by simp only [List.cons_append, List.nil_append, List.drop_succ_cons, List.drop_zero]; rfl) ?_
  refine rk_seq ?_
  refine rk_region ?_
  refine wl_p (fun _ => o_lt rfl rfl) ?_
  refine wl_nil ?_
  refine rk_seq ?_
  refine rk_if rfl (fun h14 => ?_) (fun h14 => ?_)
  ·have hil : i < I.length := by omega
   obtain ⟨n1, n2⟩ := hL _ (List.getElem_mem hil)
   refine rk_skip ?_
   refine rk_seq ?_
   refine rk_block ?_
   refine rk_seq ?_
   refine rk_region ?_
   refine wl_p (fun _ => (o_iaddrA (i) Tryz.underlying28 Tryz.sizeOf94 rfl rfl rfl (hA.some_ (by omega)) (by omega))) ?_
   refine wl_ldItem rfl hA hw (by omega) ?_
   rintro A116 c116 A216 c216 f16 f16_1 i16 i16_1
   refine wl_allocg [_, _] Tryz.zeroValue94 (by rfl) ?_
   rintro g5 w5 f5 b5 i5 i5_1
   have s5 := b5.size
   replace hw := hw.trans (b5.mono hw.size)
   replace f2 := f2.u b5
   replace f1 := f1.u b5
   replace fo := fo.u b5
   refine wl_storega Tryz.sizeOf94 rfl rfl (by rfl) (oneCell_of (by rfl)) f5 (by rfl) ?_
   rintro w_1 f g e_1
   have s := g.size
   replace hw := hw.trans (below_of_grownBy g.g hw.size (by omega))
   replace fo := fo.q g (ap_some (by omega)) (by decide)
   replace f1 := f1.k g.g (ap_some (by omega))
   replace f2 := f2.k g.g (ap_some (by omega))
   clear f5
   refine wl_nil ?_
   refine rk_drawo (id := 5) (none) [0, 0, 2, 4, 0, 16, 40, 72, 128, 321, 1023] [0, 0, 2, 6, 0, 16, 62, 126, 254, 511, 1023] 840 8 [0, 1, 2, 4, 5, 3, 6, 7, 8, 9, 10] [(.p, 0), (.p, 1), (.r, 2), (.p, 4), (.s, 5), (.c, 3), (.l, 6), (.p, 7), (.l, 8), (.l, 9), (.p, 10)] (by kernel_rfl) (by kernel_rfl) (by kernel_rfl) (by kernel_rfl) (by kernel_rfl) ?_
   dsimp only [inOrder, nthOp]
   replace hw := hw.drew
   replace f2 := f2.d
   replace f1 := f1.d
   replace fo := fo.d
   replace f := f.d
   refine wl_p (fun _ => o_move rfl) ?_
   refine wl_p (fun _ => o_faddr (s := 94) (i := 0) (off := 0) Tryz.underlying94 rfl Tryz.sizeOf39 rfl rfl rfl) ?_
   refine wl_r (o_loadbg Tryz.isAgg39 rfl f (by rfl)) ?_
   refine wl_p (fun _ => o_faddr (s := 94) (i := 1) (off := 1) Tryz.underlying94 rfl Tryz.sizeOf39 rfl rfl rfl) ?_
   refine wl_s (fun _ hk => (o_loadbg Tryz.isAgg39 rfl (f.u (below_of_grown_none hk)) (by rfl))) ?_
   refine wl_call rfl (C_bClone _ (f16.u hw) rfl (by omega)) ?_ (hq := .inr fun _ _ h => grown_of_below h.choose_spec.choose_spec.2.2 _)
   rintro v20 w20 ⟨A20, ⟨c20, ⟨rfl, ⟨f20, b20⟩⟩⟩⟩
   simp only [drew_size] at f20
   simp only [drew_size] at b20
   have qf20 := f20.cap
   have s20 := b20.size
   simp only [drew_size] at s20
   replace hw := hw.trans (b20.mono hw.size)
   replace f := f.u b20
   replace fo := fo.u b20
   replace f1 := f1.u b20
   replace f2 := f2.u b20
   refine wl_call rfl (C_bClone _ (f16_1.u hw) rfl (by omega)) ?_
   rintro v23 w23 ⟨A23, ⟨c23, ⟨rfl, ⟨f23, b23⟩⟩⟩⟩
   have qf23 := f23.cap
   have s23 := b23.size
   replace hw := hw.trans (b23.mono hw.size)
   replace f2 := f2.u b23
   replace f1 := f1.u b23
   replace fo := fo.u b23
   replace f := f.u b23
   replace f20 := f20.u b23
   refine wl_p (fun _ => (o_buildg [_, _] Tryz.underlying94 Tryz.zeroValue94 (by rfl) (by rfl) rfl (by rfl) (by rfl) (fun _ => by kernel_rfl))) ?_
   have m1 := own_max f20
   have m2 := own_max f23
   refine wl_litItm (by rfl) rfl f20.to_RdT f23.to_RdT rfl rfl (by omega) (by omega) (by omega) (by omega) (by rfl) ?_
   rintro A25 w25 f25 b25
   have qf25 := f25.cap
   have s25 := b25.size
   replace hw := hw.trans (b25.mono hw.size)
   replace f20 := f20.u b25
   replace f := f.u b25
   replace fo := fo.u b25
   replace f1 := f1.u b25
   replace f2 := f2.u b25
   replace f23 := f23.u b25
   refine wl_appItm rfl fo rfl rfl f25.to_RIT (by rfl) (by omega) hw.size ?_
   rintro A26 c26 w26 f26 g26 b26
   have qf26 := f26.cap
   have s26 := g26.size
   replace hw := hw.trans (b26.mono (by omega))
   replace f23 := f23.y g26 (by decide)
   replace f2 := f2.y g26 (by decide)
   replace f1 := f1.y g26 (by decide)
   replace f := f.k g26.g (fo.ap (by omega))
   replace f20 := f20.y g26 (by decide)
   replace f25 := f25.q g26 (fo.ap (by omega)) (by decide)
   clear fo
   refine wl_p (fun _ => o_assign rfl) ?_
   refine wl_nild ?_
   refine rk_blk ?_
   refine rk_region ?_
   refine wl_p (fun _ => o_add rfl rfl (by omega) (by omega)) ?_
   refine wl_p (fun _ => o_move rfl) ?_
   refine wl_nil ?_
   exact rk_againf (Fr.le_of (by kernel_rfl) (by kernel_rfl) (by repeat' constructor)) ⟨i + 1, (i : Int) + 1, A26, c26, J ++ [(I[i].1, I[i].2)], rfl, by omega, by omega, rfl, by rw [hJ, List.take_succ_eq_append_getElem hil], f26.base (Nat.le_refl _) (by omega), f1, f2, by omega, hw⟩ (by omega)
  ·refine rk_exit rfl ?_
   obtain rfl : i = I.length := by omega
   rw [List.take_length] at hJ
   subst hJ
   exact rk_tof hj (Fr.le_of (by kernel_rfl) (by kernel_rfl) (by repeat' constructor)) ⟨A', c', rfl, fo, f1, f2, hsz, hw⟩
 clear hw f9 f1 f2
 rintro fr w3 ⟨A', c', rfl, fo, f1, f2, hsz, hw⟩
 have shw := hw.size
 first | refine rk_frame (by simp only [List.cons_append, List.nil_append, List.drop_succ_cons, List.drop_zero]; rfl) ?_ | refine wl_frame (by simp only [List.cons_append, List.nil_append, List.drop_succ_cons, List.drop_zero]; rfl) ?_
 refine rk_seq ?_
 refine rk_drawo (id := 7) (none) [0, 0, 2, 4, 0, 16, 40, 73, 255] [0, 0, 2, 6, 0, 16, 62, 127, 255] 328 8 [0, 1, 2, 4, 5, 3, 6, 7, 8] [(.p, 0), (.p, 1), (.r, 2), (.p, 4), (.s, 5), (.c, 3), (.l, 6), (.p, 7), (.l, 8)] (by kernel_rfl) (by kernel_rfl) (by kernel_rfl) (by kernel_rfl) (by kernel_rfl) ?_
 dsimp only [inOrder, nthOp]
 replace hw := hw.drew
 replace f2 := f2.d
 replace f1 := f1.d
 replace fo := fo.d
 refine wl_p (fun _ => o_move rfl) ?_
 refine wl_p (fun _ => o_faddr (s := 31) (i := 1) (off := 1) Tryz.underlying31 rfl Tryz.sizeOf29 rfl rfl rfl) ?_
 refine wl_r (o_loadbg Tryz.isAgg29 rfl f1 (by rfl)) ?_
 refine wl_p (fun _ => o_faddr (s := 31) (i := 2) (off := 2) Tryz.underlying31 rfl Tryz.sizeOf29 rfl rfl rfl) ?_
 refine wl_s (fun _ hk => (o_loadbg Tryz.isAgg29 rfl (f1.u (below_of_grown_none hk)) (by rfl))) ?_
 refine wl_call rfl (C_kClone _ (hB.u hw) rfl (by omega)) ?_ (hq := .inr fun _ _ h => grown_of_below h.choose_spec.choose_spec.2.2 _)
 rintro v31 w31 ⟨A31, ⟨c31, ⟨rfl, ⟨f31, b31⟩⟩⟩⟩
 simp only [drew_size] at f31
 simp only [drew_size] at b31
 have qf31 := f31.cap
 have s31 := b31.size
 simp only [drew_size] at s31
 replace hw := hw.trans (b31.mono hw.size)
 replace fo := fo.u b31
 replace f1 := f1.u b31
 replace f2 := f2.u b31
 refine wl_call rfl (C_kClone _ (hC.u hw) rfl (by omega)) ?_
 rintro v34 w34 ⟨A34, ⟨c34, ⟨rfl, ⟨f34, b34⟩⟩⟩⟩
 have qf34 := f34.cap
 have s34 := b34.size
 replace hw := hw.trans (b34.mono hw.size)
 replace f2 := f2.u b34
 replace f1 := f1.u b34
 replace fo := fo.u b34
 replace f31 := f31.u b34
 refine wl_p (fun _ => (o_buildg [_, _, _] Tryz.underlying31 Tryz.zeroValue31 (by rfl) (by rfl) rfl (by rfl) (by rfl) (fun _ => by kernel_rfl))) ?_
 refine wl_storega Tryz.sizeOf31 rfl rfl (by rfl) (oneCell_of (by rfl)) f2 (by rfl) ?_
 rintro w_1 f g e_1
 have s := g.size
 replace hw := hw.trans (below_of_grownBy g.g hw.size (by omega))
 replace f31 := f31.y g (by decide)
 replace fo := fo.y g (by decide)
 replace f1 := f1.k g.g (ap_some (by omega))
 replace f34 := f34.y g (by decide)
 clear f2
 refine wl_nild ?_
 refine ret_cell rfl rfl Tryz.isAgg31 Tryz.sizeOf31 (by assumption) rfl ?_
 exact ⟨A', c', A31, c31, A34, c34, w3.heap.size, w31.heap.size, rfl, fo, f31, f34.base (Nat.le_refl _) (by omega), by omega, by omega, by omega, hw⟩
def valI (I : List (By × By)) (p : By) : By := ((I[low (I.map Prod.fst) p]?).map Prod.snd).getD []
def getS (I : List (By × By)) (X Y : List Ky) (p : By) : By × Bool := if OkSt I X Y ∧ p ∈ I.map Prod.fst then (valI I p, true) else ([], false)
theorem OkI.srt {I : List (By × By)} (h : OkI I) : Srt (I.map Prod.fst) := fun i hi h0 => by
 rw [List.length_map] at hi
 rw [List.getElem_map, List.getElem_map]
 exact (h i hi).2 h0
theorem mem_low {I : List (By × By)} {p : By} (hs : Srt (I.map Prod.fst)) (h : p ∈ I.map Prod.fst) : ∃ hl : low (I.map Prod.fst) p < I.length, I[low (I.map Prod.fst) p].1 = p := by
 obtain ⟨j, hj, e⟩ := List.getElem_of_mem h
 have hlow : low (I.map Prod.fst) p = j := by
  refine low_eq (Nat.le_of_lt hj) (fun q hq hqj => ?_) (fun q hq hqj => ?_)
  ·rw [← e]; exact cmpL_chain hs j q hj hqj
  ·rw [← e]
   rcases Nat.lt_or_eq_of_le hqj with h1 | h1
   ·have h2 := cmpL_chain hs q j hq h1
    have h3 := cmpL_neg (I.map Prod.fst)[q] (I.map Prod.fst)[j]
    omega
   ·subst h1; rw [cmpL_self]; exact Int.le_refl _
 rw [List.length_map] at hj
 rw [List.getElem_map] at e
 rw [hlow]
 exact ⟨hj, e⟩
set_option maxRecDepth 100000 in
theorem C_get {A B C P : Option Addr} {I : List (By × By)} {X Y : List Ky} {p : By} {r : By × Bool} {n c m d q e z f : Nat} (w : World) (hA : RI w A I) (hB : RKs w B X) (hC : RKs w C Y) (hP : Rd w P p) (hr : getS I X Y p = r) (hn : n = I.length) (hm : m = X.length) (hq : q = Y.length) (hz : z = p.length) (hl : I.length ≤ 400000) (hl2 : X.length ≤ 400000) (hl3 : Y.length ≤ 400000) (hL : LtI I) (hp : p.length ≤ 4000000) :
  CallsR Tryz.prog 19 [.agg #[.slice A n c, .slice B m d, .slice C q e], .slice P z f] w fun v w' => ∃ A' c', v = .tuple #[.slice A' r.1.length c', .bool r.2] ∧ OwnH w' w.heap.size w'.heap.size A' c' r.1 ∧ Below w.heap.size w w' := by
 subst hn; subst hm; subst hq; subst hz
 unfold getS at hr
 refine callsR Tryz.func19 rfl rfl (by kernel_rfl) rfl ?_
 have hw := Below.refl w.heap.size w
 by_cases h1 : OkSt I X Y
 ·have hs := h1.2.2.1.srt
  by_cases h2 : p ∈ I.map Prod.fst
  ·rw [if_pos ⟨h1, h2⟩] at hr
   subst hr
   obtain ⟨hk, e1⟩ := mem_low hs h2
   have e2 : valI I p = I[low (I.map Prod.fst) p].2 := by unfold valI; rw [List.getElem?_eq_getElem hk]; rfl
   rw [e2]
   have n2 := hL _ (List.getElem_mem hk)
   refine rk_seq ?_
   refine rk_region ?_
   refine wl_boxg [_, _, _] rfl (by rfl) ?_
   rintro g2 w2 f2 b2 i2 i2_1
   have s2 := b2.size
   replace hw := hw.trans (b2.mono hw.size)
   refine wl_p (fun _ => o_assign rfl) ?_
   refine wl_p (fun _ => o_assign rfl) ?_
   refine wl_nil ?_
   refine rk_seq ?_
   refine rk_seq ?_
   refine rk_region ?_
   refine wl_r (o_loadag Tryz.isAgg31 Tryz.sizeOf31 rfl f2 (by rfl)) ?_
   refine wl_call rfl (C_checkStateOk _ (hA.u hw) (hB.u hw) (hC.u hw) rfl rfl rfl (by omega) (by omega) (by omega) (by omega) (by omega)) ?_
   rintro v9 w9 ⟨rfl, b9⟩
   have s9 := b9.size
   replace hw := hw.trans (b9.mono hw.size)
   replace f2 := f2.u b9
   refine wl_p (fun _ => o_ne rfl rfl) ?_
   refine wl_nil ?_
   refine rk_false rfl ?_
   refine rk_skip ?_
   refine rk_seq ?_
   refine rk_region ?_
   refine wl_p (fun _ => o_faddr (s := 31) (i := 0) (off := 0) Tryz.underlying31 rfl Tryz.sizeOf28 rfl rfl rfl) ?_
   refine wl_r (o_loadbg Tryz.isAgg28 rfl f2 (by rfl)) ?_
   refine wl_p (fun _ => o_move rfl) ?_
   refine wl_call rfl (C_find _ (hA.u hw) (hP.u hw) rfl rfl (by omega) (by omega) (by omega) (by omega)) ?_
   rintro v15 w15 ⟨rfl, b15⟩
   have s15 := b15.size
   replace hw := hw.trans (b15.mono hw.size)
   replace f2 := f2.u b15
   refine wl_p (fun _ => o_move rfl) ?_
   refine wl_p (fun _ => o_ext20 rfl) ?_
   refine wl_p (fun _ => o_ext21 rfl) ?_
   refine wl_p (fun _ => o_assign rfl) ?_
   refine wl_p (fun _ => o_assign rfl) ?_
   refine wl_nil ?_
   refine rk_seq ?_
   refine rk_seq ?_
   refine rk_region ?_
   refine wl_p (fun _ => o_move rfl) ?_
   refine wl_p (fun _ => o_not rfl) ?_
   refine wl_nil ?_
   rw [decide_eq_true h2]
   refine rk_false rfl ?_
   refine rk_skip ?_
   refine rk_seq ?_
   refine rk_region ?_
   refine wl_p (fun _ => o_faddr (s := 31) (i := 0) (off := 0) Tryz.underlying31 rfl Tryz.sizeOf28 rfl rfl rfl) ?_
   refine wl_r (o_loadbg Tryz.isAgg28 rfl f2 (by rfl)) ?_
   refine wl_p (fun _ => o_move rfl) ?_
   refine wl_p (fun _ => (o_iaddrA (low (List.map Prod.fst I) p) Tryz.underlying28 Tryz.sizeOf94 rfl rfl rfl (hA.some_ (by omega)) (by omega))) ?_
   refine wl_p (fun _ => (o_faddrR rfl Tryz.underlying94 (by rfl) Tryz.sizeOf39 (by rfl) (by rfl))) ?_
   refine wl_ldVal rfl hA hw (by omega) ?_
   rintro A125 c125 f25 i25
   refine wl_call rfl (C_sClone _ (f25.u hw) rfl (by omega)) ?_
   rintro v26 w26 ⟨A26, ⟨c26, ⟨rfl, ⟨f26, b26⟩⟩⟩⟩
   have qf26 := f26.cap
   have s26 := b26.size
   replace hw := hw.trans (b26.mono hw.size)
   replace f2 := f2.u b26
   refine wl_p (fun _ => o_assign rfl) ?_
   refine wl_p (fun _ => o_assign rfl) ?_
   refine wl_nil ?_
   refine ret2 rfl rfl rfl ?_
   exact ⟨_, _, rfl, f26.base (by omega) (Nat.le_refl _), hw⟩
  ·rw [if_neg (fun h => h2 h.2)] at hr
   subst hr
   refine rk_seq ?_
   refine rk_region ?_
   refine wl_boxg [_, _, _] rfl (by rfl) ?_
   rintro g2 w2 f2 b2 i2 i2_1
   have s2 := b2.size
   replace hw := hw.trans (b2.mono hw.size)
   refine wl_p (fun _ => o_assign rfl) ?_
   refine wl_p (fun _ => o_assign rfl) ?_
   refine wl_nil ?_
   refine rk_seq ?_
   refine rk_seq ?_
   refine rk_region ?_
   refine wl_r (o_loadag Tryz.isAgg31 Tryz.sizeOf31 rfl f2 (by rfl)) ?_
   refine wl_call rfl (C_checkStateOk _ (hA.u hw) (hB.u hw) (hC.u hw) rfl rfl rfl (by omega) (by omega) (by omega) (by omega) (by omega)) ?_
   rintro v9 w9 ⟨rfl, b9⟩
   have s9 := b9.size
   replace hw := hw.trans (b9.mono hw.size)
   replace f2 := f2.u b9
   refine wl_p (fun _ => o_ne rfl rfl) ?_
   refine wl_nil ?_
   refine rk_false rfl ?_
   refine rk_skip ?_
   refine rk_seq ?_
   refine rk_region ?_
   refine wl_p (fun _ => o_faddr (s := 31) (i := 0) (off := 0) Tryz.underlying31 rfl Tryz.sizeOf28 rfl rfl rfl) ?_
   refine wl_r (o_loadbg Tryz.isAgg28 rfl f2 (by rfl)) ?_
   refine wl_p (fun _ => o_move rfl) ?_
   refine wl_call rfl (C_find _ (hA.u hw) (hP.u hw) rfl rfl (by omega) (by omega) (by omega) (by omega)) ?_
   rintro v15 w15 ⟨rfl, b15⟩
   have s15 := b15.size
   replace hw := hw.trans (b15.mono hw.size)
   replace f2 := f2.u b15
   refine wl_p (fun _ => o_move rfl) ?_
   refine wl_p (fun _ => o_ext20 rfl) ?_
   refine wl_p (fun _ => o_ext21 rfl) ?_
   refine wl_p (fun _ => o_assign rfl) ?_
   refine wl_p (fun _ => o_assign rfl) ?_
   refine wl_nil ?_
   refine rk_seq ?_
   refine rk_seq ?_
   refine rk_region ?_
   refine wl_p (fun _ => o_move rfl) ?_
   refine wl_p (fun _ => o_not rfl) ?_
   refine wl_nil ?_
   rw [decide_eq_false h2]
   refine rk_true rfl ?_
   refine rk_seq ?_
   refine rk_region ?_
   refine wl_p (fun _ => o_assign rfl) ?_
   refine wl_p (fun _ => o_assign rfl) ?_
   refine wl_nil ?_
   refine ret2 rfl rfl rfl ?_
   exact ⟨_, _, rfl, OwnH.nil_, hw⟩
 ·rw [if_neg (fun h => h1 h.1)] at hr
  subst hr
  refine rk_seq ?_
  refine rk_region ?_
  refine wl_boxg [_, _, _] rfl (by rfl) ?_
  rintro g2 w2 f2 b2 i2 i2_1
  have s2 := b2.size
  replace hw := hw.trans (b2.mono hw.size)
  refine wl_p (fun _ => o_assign rfl) ?_
  refine wl_p (fun _ => o_assign rfl) ?_
  refine wl_nil ?_
  refine rk_seq ?_
  refine rk_seq ?_
  refine rk_region ?_
  refine wl_r (o_loadag Tryz.isAgg31 Tryz.sizeOf31 rfl f2 (by rfl)) ?_
  refine wl_call rfl (C_checkStateBad _ (hA.u hw) (hB.u hw) (hC.u hw) rfl rfl rfl (by omega) (by omega) (by omega) (by omega) (by omega)) ?_
  rintro v9 w9 ⟨rfl, b9⟩
  have s9 := b9.size
  replace hw := hw.trans (b9.mono hw.size)
  replace f2 := f2.u b9
  refine wl_p (fun _ => o_ne rfl rfl) ?_
  refine wl_nil ?_
  refine rk_true rfl ?_
  refine rk_seq ?_
  refine rk_region ?_
  refine wl_p (fun _ => o_assign rfl) ?_
  refine wl_p (fun _ => o_assign rfl) ?_
  refine wl_nil ?_
  refine ret2 rfl rfl rfl ?_
  exact ⟨_, _, rfl, OwnH.nil_, hw⟩
end Go.Proofs.YtahkeoegbjopfaaGreat
/-
  An element put into the midst of a row: cells copied within a row or to another one, room made by zeros. No function of the program is named here.
-/
namespace Go.Proofs.YtahkeoegbjopfaaGreat
set_option maxRecDepth 100000
open Go.RowKit
structure Pts {α : Type} (X : GoT α) (w : World) (xs : List Value) (L : List α) : Prop where
 n : xs.length = L.length * X.sz
 t : ∀ q (h : q < L.length), X.T w (part xs X.sz q) L[q]
section
variable {α : Type} {X : GoT α} {w w' : World} {xs ms : List Value} {L M : List α} {e : TypeId} {row : Option Nat} {i : Nat}
theorem Pts.ty (h : Pts X w xs L) (hg : Grew w w' e row) (hne : e ∉ X.tys) : Pts X w' xs L := ⟨h.n, fun q hq => X.ty (h.t q hq) hg hne⟩
theorem Pts.append (h : Pts X w xs L) (k : Pts X w ms M) : Pts X w (xs ++ ms) (L ++ M) := by
 refine ⟨by rw [List.length_append, List.length_append, h.n, k.n, Nat.add_mul], fun q hq => ?_⟩
 rw [List.length_append] at hq
 rcases Nat.lt_or_ge q L.length with hl | hl
 ·rw [part_append_lt h.n hl, List.getElem_append_left hl]
  exact h.t q hl
 ·rw [List.getElem_append_right hl]
  have e3 : part (xs ++ ms) X.sz q = part ms X.sz (q - L.length) := by
   unfold part
   rw [show q * X.sz = xs.length + (q - L.length) * X.sz by rw [h.n, ← Nat.add_mul]; congr 1; omega, ← List.drop_drop, List.drop_left]
  rw [e3]
  exact k.t _ (by omega)
theorem Pts.take (h : Pts X w xs L) (hi : i ≤ L.length) : Pts X w (xs.take (i * X.sz)) (L.take i) := by
 have hl : (L.take i).length = i := by rw [List.length_take]; omega
 have hkx : i * X.sz ≤ L.length * X.sz := Nat.mul_le_mul_right _ hi
 refine ⟨by rw [List.length_take, h.n, hl, Nat.min_eq_left hkx], fun q hq => ?_⟩
 rw [hl] at hq
 rw [part_take hq, List.getElem_take]
 exact h.t q (by omega)
theorem Pts.drop (h : Pts X w xs L) (_hi : i ≤ L.length) : Pts X w (xs.drop (i * X.sz)) (L.drop i) := by
 refine ⟨by rw [List.length_drop, List.length_drop, h.n, Nat.sub_mul], fun q hq => ?_⟩
 rw [part_drop, List.getElem_drop]
 rw [List.length_drop] at hq
 exact h.t _ (by omega)
theorem Pts.one (h : Pts X w xs L) (h1 : ∀ w cs a, X.T w cs a → ∀ u ∈ cs, u.oneCell' = true) (h0 : 0 < X.sz) : ∀ u ∈ xs, u.oneCell' = true := fun u hu => by
 obtain ⟨i, hi, rfl⟩ := List.getElem_of_mem hu
 have hn := h.n
 have hq : i / X.sz < L.length := (Nat.div_lt_iff_lt_mul h0).2 (by omega)
 refine h1 _ _ _ (h.t _ hq) _ (List.mem_of_getElem? (i := i % X.sz) ?_)
 rw [part_get (Nat.mod_lt _ h0), Nat.div_add_mod' i X.sz]
 exact List.getElem?_eq_getElem hi
theorem OwnS.pts {lo hi c : Nat} {A : Option Addr} (h : OwnS X e w lo hi A c L) : ∃ xs, RowH w lo hi e X.sz A L.length c xs ∧ Pts X w xs L := by
 obtain ⟨xs, h1, h2⟩ := h
 exact ⟨xs, h1, h1.rd.1, h2⟩
theorem Pts.own {lo hi c : Nat} {A : Option Addr} (h : Pts X w xs L) (k : RowH w lo hi e X.sz A L.length c xs) : OwnS X e w lo hi A c L := ⟨xs, k, h.t⟩
end
section
variable {w : World} {lo hi sz n c g : Nat} {e : TypeId} {cur xs : List Value}
theorem row_of_blk (hB : Blk w g e cur) (h1 : lo ≤ g) (h2 : g < hi) (hc : cur.length = c * sz) (hn : n ≤ c) (hm : c ≤ maxLen) (hx : xs.length = n * sz) (ht : cur.take (n * sz) = xs) : RowH w lo hi e sz (some ⟨g, 0, none⟩) n c xs :=
 ⟨⟨hx, .inr ⟨g, c, cur.toArray, rfl, h1, hB, hn, hm, by rw [List.size_toArray, hc], ht⟩⟩, fun k hk => by
  have hk2 : g = k := by simpa [blk] using hk
  omega⟩
theorem row_max {A : Option Addr} (h : RowH w lo hi e sz A n c xs) : c ≤ maxLen := by
 rcases h.o.2 with ⟨hv, _⟩ | ⟨g, cap, cur, hv, _, _, _, hm, _⟩
 ·injection hv with _ _ e; subst e; simp only [maxLen]; omega
 ·injection hv with _ _ e
  subst e; exact hm
end
theorem src_blk {w : World} {g k n : Nat} {t : TypeId} {cur xs : List Value} (hB : Blk w g t cur) (ht : cur.take n = xs) : ∀ j v, (xs.drop k)[j]? = some v → w.cell? ((⟨g, k, none⟩ : Addr).add j) = some v := fun j v hj => by
 rw [add_plain, hB.cell]
 rw [List.getElem?_drop, ← ht] at hj
 rcases Nat.lt_or_ge (k + j) n with h | h
 ·rwa [List.getElem?_take_of_lt h] at hj
 ·rw [List.getElem?_eq_none (by rw [List.length_take]; omega)] at hj; cases hj
theorem ins_in {xs ms cur : List Value} {i n sz : Nat} (hi : i ≤ n) (hx : xs.length = n * sz) (hm : ms.length = sz) (hc : (n + 1) * sz ≤ cur.length) (ht : cur.take (n * sz) = xs) :
  (spl (spl cur ((i + 1) * sz) (xs.drop (i * sz))) (i * sz) ms).take ((n + 1) * sz) = xs.take (i * sz) ++ ms ++ xs.drop (i * sz) := by
 have h1 : i * sz ≤ n * sz := Nat.mul_le_mul_right _ hi
 rw [Nat.add_mul, Nat.one_mul] at hc ⊢
 rw [Nat.add_mul, Nat.one_mul]
 have hd : (xs.drop (i * sz)).length = n * sz - i * sz := by rw [List.length_drop, hx]
 have hs1 : (spl cur (i * sz + sz) (xs.drop (i * sz))).length = cur.length := spl_length (by rw [hd]; omega)
 apply List.ext_getElem?
 intro q
 rw [List.getElem?_take]
 by_cases hq : q < n * sz + sz
 ·rw [if_pos hq, getElem_spl (by rw [hs1]; omega), getElem_spl (by rw [hd]; omega)]
  have htl : (xs.take (i * sz)).length = i * sz := by rw [List.length_take]; omega
  rcases Nat.lt_or_ge q (i * sz) with h2 | h2
  ·rw [if_neg (by omega), if_neg (by omega), List.append_assoc, List.getElem?_append_left (by omega), List.getElem?_take_of_lt h2, ← ht, List.getElem?_take_of_lt (by omega)]
  ·rcases Nat.lt_or_ge q (i * sz + sz) with h3 | h3
   ·rw [if_pos (by omega), List.append_assoc, List.getElem?_append_right (by omega), htl, List.getElem?_append_left (by omega)]
   ·rw [if_neg (by omega), if_pos (by rw [hd]; omega), List.getElem?_append_right (by rw [List.length_append, htl]; omega), List.length_append, htl, hm]
 ·rw [if_neg hq, List.getElem?_eq_none]
  simp only [List.length_append, List.length_take, List.length_drop]
  omega
theorem ins_new {xs ms cur : List Value} {i n sz : Nat} (hi : i ≤ n) (hx : xs.length = n * sz) (hm : ms.length = sz) (hc : (n + 1) * sz ≤ cur.length) (ht : cur.take (i * sz) = xs.take (i * sz)) :
  (spl (spl cur (i * sz) ms) ((i + 1) * sz) (xs.drop (i * sz))).take ((n + 1) * sz) = xs.take (i * sz) ++ ms ++ xs.drop (i * sz) := by
 have h1 : i * sz ≤ n * sz := Nat.mul_le_mul_right _ hi
 rw [Nat.add_mul, Nat.one_mul] at hc ⊢
 rw [Nat.add_mul, Nat.one_mul]
 have hd : (xs.drop (i * sz)).length = n * sz - i * sz := by rw [List.length_drop, hx]
 have hs1 : (spl cur (i * sz) ms).length = cur.length := spl_length (by omega)
 apply List.ext_getElem?
 intro q
 rw [List.getElem?_take]
 by_cases hq : q < n * sz + sz
 ·rw [if_pos hq, getElem_spl (by rw [hs1, hd]; omega), getElem_spl (by omega)]
  have htl : (xs.take (i * sz)).length = i * sz := by rw [List.length_take]; omega
  rcases Nat.lt_or_ge q (i * sz) with h2 | h2
  ·rw [if_neg (by omega), if_neg (by omega), List.append_assoc, List.getElem?_append_left (by omega), ← ht, List.getElem?_take_of_lt h2]
  ·rcases Nat.lt_or_ge q (i * sz + sz) with h3 | h3
   ·rw [if_neg (by omega), if_pos (by omega), List.append_assoc, List.getElem?_append_right (by omega), htl, List.getElem?_append_left (by omega)]
   ·rw [if_pos (by rw [hd]; omega), List.getElem?_append_right (by rw [List.length_append, htl]; omega), List.length_append, htl, hm]
 ·rw [if_neg hq, List.getElem?_eq_none]
  simp only [List.length_append, List.length_take, List.length_drop]
  omega
section
variable {P : Program} {w : World} {t t2 ty e e' ti : TypeId} {z : Value} {sz bytes g o dLen dCap sLen sCap : Nat} {a : Addr} {cur ms : List Value}
theorem run_copyS (T : RowT P t e z sz bytes) (hB : Blk w g e' cur) (hr : ∀ j v, ms[j]? = some v → w.cell? (a.add j) = some v) (hm : ms.length = Nat.min sLen dLen * sz) (h1 : ∀ u ∈ ms, u.oneCell' = true) (hfit : o + ms.length ≤ cur.length) :
  ∃ w', (Builtin.copy_ #[t, t2] ty #[.slice (some ⟨g, o, none⟩) dLen dCap, .slice (some a) sLen sCap]).run P w = .ok (goInt (Nat.min sLen dLen)) w' ∧ Blk w' g e' (spl cur o ms) ∧ w.grownBy w' (some g) ∧ w'.heap.size = w.heap.size := by
 obtain ⟨i, hi, hz, hs, hb⟩ := info_parts T.hi
 have hl := run_loadCells_list (P := P) w a ms hr
 obtain ⟨w', hst, hB', hg, hsz⟩ := run_storeCells_blk (P := P) (o := o) ms 0 cur w hB h1 (by omega)
 refine ⟨w', ?_, hB', hg, hsz⟩
 simp [Builtin.copy_, run_underlying T.ht, Builtin.lenOf, Builtin.firstCells, sizeOf, typeInfo, hi, hs, ← hm, hl, hst]
theorem run_append_zgrow (T : RowT P t e z sz bytes) (hti : P.underlying ti = some (.int .i64)) {n c m : Nat} (hl : ms.length = n * sz) (hr : ∀ j v, ms[j]? = some v → w.cell? (a.add j) = some v) (hm : 0 < m) (hc : c < n + m) (hmx : n + m ≤ 1000000) (hcx : c ≤ 1000000) (hb : bytes ≤ 100) :
  ∃ c' zs, (Builtin.append_ #[t, ti] ty #[.slice (some a) n c, .int .i64 (m : Int)]).run P w = .ok (.slice (some ⟨w.heap.size, 0, none⟩) (n + m) c') (w.drew.alloc (.cells (ms ++ zs).toArray e)) ∧ (ms ++ zs).length = c' * sz ∧ n + m ≤ c' ∧ c' ≤ maxLen := by
 obtain ⟨i, hi, hz, hs, hb'⟩ := info_parts T.hi
 have hge := grownCap_ge w (n + m) c e
 have hcm : grownCap w (n + m) c e ≤ maxLen := grownCap_le_maxLen w (n + m) c e (by simp only [maxLen]; omega)
 refine ⟨grownCap w (n + m) c e, (Builtin.zeroCells z.cells m ++ Builtin.zeroCells z.cells (grownCap w (n + m) c e - (n + m))).toList, ?_, ?_, hge, hcm⟩
 ·have hw : IntKind.i64.wrap (m : Int) = m := i64_in (by omega) (by omega)
  have hneg : ¬ ((m : Int) < 0) := by omega
  have hb1 : ¬ (281474976710656 < (m : Int) * (i.bytes : Int)) := by
   have h1 : (m : Int) * (i.bytes : Int) = ((m * i.bytes : Nat) : Int) := by simp
   have h2 := Nat.mul_le_mul (show m ≤ 1000000 by omega) (show i.bytes ≤ 100 by omega)
   omega
  have h63 : ¬ (9223372036854775807 < ((n : Int) + (m : Int))) := by omega
  have hroom : ¬ (n + m ≤ c) := by omega
  have h48 := nextslicecap_le (need := n + m) (old := c) (by omega)
  have h48' : ¬ (281474976710656 < Builtin.nextslicecap (n + m) c * i.bytes) := by
   have h2 := Nat.mul_le_mul (show Builtin.nextslicecap (n + m) c ≤ 2000000 + 2000000 by omega) (show i.bytes ≤ 100 by omega)
   omega
  have hmz : m ≠ 0 := by omega
  have hms : n * i.size = ms.length := by rw [hl, hs]
  have hload2 := run_loadCells_list (P := P) w.drew a ms hr
  have hmsz : m * i.size ≠ 0 := Nat.mul_ne_zero hmz (by have := T.h0; omega)
  simp [Builtin.append_, run_underlying T.ht, run_underlying hti, sizeOf, typeInfo, zeroValue, hi, hz, asInt, asIntOf, hw, hneg, hb1, h63, hroom, hmsz, h48', Builtin.lenOf, Builtin.firstCells, hms, hload2, Question.forced, newRow, grownCap]
  congr 2
  apply Array.ext'
  simp
 ·rw [List.length_append, hl, Array.length_toList, Array.size_append, size_zeroCells, size_zeroCells, T.hz, ← Nat.add_mul, ← Nat.add_mul]
  congr 1
  omega
end
end Go.Proofs.YtahkeoegbjopfaaGreat
