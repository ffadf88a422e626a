/-
  Walks of package journal: sectors written.
-/
import Derived.Test.YtnnhenafhalobaaGreatMg6
import Derived.RangeFuncWrites
namespace Go.Proofs.YtnnhenafhalobaaGreat
set_option maxRecDepth 100000
open Go.RowKit
theorem seq2_of_rk {P : Program} {fn : Func} {N n : Nat} {fr : Fr} {w : World} {I : Act → World → Prop} {x y z : Code} {Q : Exit → Act → World → Prop} {a : Act} (h : RK P fn noEnd N [.code x, .code y, .inv I] fr w) (ha : Rep N a fr) (hy : ∀ a w, I a w → z.wpIn Fence.wide n P Q a w) :
    (Code.seq x (.seq y z)).wpIn Fence.wide n P Q a w := by
  refine wpIn_seq (wpIn_mono (wpIn_wide.2 (show x.wp P (kpost P fn noEnd [.code y, .inv I]) a w from h a ha)) (fun e a w he => ?_))
  cases e with
  | normal =>
    refine wpIn_seq (wpIn_mono (wpIn_wide.2 (show y.wp P (kpost P fn noEnd [.inv I]) a w from he)) (fun e a w he => ?_))
    obtain ⟨rfl, hI⟩ := kpost_inv he
    exact hy a w hI
  | ret => cases (kpost_inv (show kpost P fn noEnd [.inv I] .ret a w from he)).1
  | panic c => cases (kpost_inv (show kpost P fn noEnd [.inv I] (.panic c) a w from he)).1
  | outgrown => cases (kpost_inv (show kpost P fn noEnd [.inv I] .outgrown a w from he)).1
  | exit id => cases (kpost_inv (show kpost P fn noEnd [.inv I] (.exit id) a w from he)).1
  | goto t => cases (kpost_inv (show kpost P fn noEnd [.inv I] (.goto t) a w from he)).1
theorem keeps_chg {lo hi B : Nat} {W W' : World} (h : Chg lo hi W W') (hB : hi ≤ B) : KeepsFrom B W W' := ⟨h.size, fun k o hk ho _ => (h.block k (Array.getElem?_eq_some_iff.1 ho).1 (.inr (by omega))).trans ho⟩
set_option maxHeartbeats 1000000 in
theorem C_jWrite {dl dh gd n M c rlo rhi : Nat} {S : List Sec} {C C' : List (Option Sec)} {ad : Addr} {b : By} {z : Int} (w : World) (hd : DkAt w dl dh gd S C) (hb : RdB w rlo rhi (some ad) b) (hrd : rhi ≤ dl ∨ dh ≤ rlo) (hrs : rhi ≤ w.heap.size) (hz : z = n) (hM : b.length = 256 * M) (hc : 256 * M ≤ c) (hn : n + M ≤ S.length) (hMx : M ≤ 10000) (hC : wrs C n (secsN M b) = C') :
    CallsR Tryz.prog 42 [.pointer (some ⟨gd, 0, none⟩), .int .i64 z, .slice (some ad) b.length c] w fun v w' => v = .tuple #[] ∧ DkAt w' dl dh gd S C' ∧ Chg dl dh w w' := by
  subst hz
  refine ⟨⟨_, Tryz.func42, rfl, by kernel_rfl⟩, ?_⟩
  refine (callsIn_wide (n := 3)).1 (callsIn_of_wp_marks Tryz.func42 rfl trivial ?_)
  refine seq2_of_rk (fn := Tryz.f42) (I := fun a w' => ∃ g3 g4 g h, Rep Tryz.f42.ntmps a [(8, .func (.func 97) #[] #[.pointer (some ⟨g, 0, none⟩), .pointer (some ⟨h, 0, none⟩)]), (4, .pointer (some ⟨g4, 0, none⟩)), (3, .pointer (some ⟨g3, 0, none⟩))] ∧ Blk w' g3 26 [.pointer (some ⟨gd, 0, none⟩)] ∧ Blk w' g4 3 [.int .i64 (n : Int)] ∧ Blk w' g 35 [.slice (some ad) (256 * M) c] ∧ Blk w' h 3 [.int .i64 256] ∧ w.heap.size ≤ g3 ∧ w.heap.size ≤ g4 ∧ w.heap.size ≤ g ∧ w.heap.size ≤ h ∧ g3 ≠ g4 ∧ g3 ≠ g ∧ g4 ≠ g ∧ g3 ≠ h ∧ g4 ≠ h ∧ g3 < w'.heap.size ∧ g4 < w'.heap.size ∧ Below w.heap.size w w') ?_ (entry_rep rfl) ?_
  · have hw := Below.refl w.heap.size w
    refine rk_region ?_
    refine wl_boxg [_] rfl (by rfl) ?_
    rintro g3 w3 f3 b3 i3 i3_1
    have s3 := b3.size
    replace hw := hw.trans (b3.mono hw.size)
    refine wl_boxg [_] rfl (by rfl) ?_
    rintro g4 w4 f4 b4 i4 i4_1
    have s4 := b4.size
    replace hw := hw.trans (b4.mono hw.size)
    replace f3 := f3.u b4
    refine wl_nil ?_
    refine rk_region ?_
    refine wl_p (fun _ => o_move rfl) ?_
    refine wl_call rfl (C_ChunkW _) ?_
    rintro v8 w8 ⟨g8, ⟨h8, ⟨rfl, ⟨f8, ⟨f8_1, ⟨i8, ⟨i8_1, ⟨i8_2, ⟨i8_3, b8⟩⟩⟩⟩⟩⟩⟩⟩⟩
    have s8 := b8.size
    replace hw := hw.trans (b8.mono hw.size)
    replace f3 := f3.u b8
    replace f4 := f4.u b8
    refine wl_nil ?_
    refine rk_inv fun a ha => ?_
    have q3 := f3.lt
    have q4 := f4.lt
    exact ⟨g3, g4, g8, h8, ha.le (Fr.le_of_sub (by repeat' constructor)), f3, f4, by rw [← hM]; exact f8, f8_1, by omega, by omega, by omega, by omega, by omega, by omega, by omega, by omega, by omega, q3, q4, hw⟩
  · rintro a1 w1 ⟨g3, g4, g, h, ha, f3, f4, fg, fh, n1, n2, n3, n4, n5, n6, n7, n8, n9, q3, q4, hw⟩
    have hg1 := fg.lt
    have hh1 := fh.lt
    have hdh := hd.hi
    refine wpIn_block ?_
    refine wpIn_rangeFunc_ownG (α := Fin M) rfl (by decide) (gf := 97) (lb := #[.pointer (some ⟨g, 0, none⟩), .pointer (some ⟨h, 0, none⟩)]) (ha.ev rfl) trivial (enters_of Tryz.func97 (by kernel_rfl) rfl) (encs := encsW (some ad) M) (Kp := KpB g h) (S := fun xs => xs = List.finRange M) (Sp := fun _ => True) (N := M) (w0 := w1)
      (chunk_stopsW (by decide) w1 fg fh (by omega) (by omega)) (fun h k => ⟨k.1.trans h.1, k.2.trans h.2⟩) (fun W l o o' hl _ _ _ => ⟨World.putObj_heap_other (by omega), World.putObj_heap_other (by omega)⟩) (Below.refl _ _) (fun _ => rfl)
      (fun pre W => Blk W g3 26 [.pointer (some ⟨gd, 0, none⟩)] ∧ Blk W g4 3 [.int .i64 ((n : Int) + pre.length)] ∧ DkAt W dl dh gd S (wrs C n (pre.map fun x => secOf ((b.drop (256 * x.val)).take 256))) ∧ RdB W rlo rhi (some ad) b ∧ Chg dl dh w W ∧ w1.heap.size ≤ W.heap.size) (fun _ _ _ => False)
      (fun s X Y row hs hg hr => ?_)
      (fun _ _ _ _ _ hs _ _ => hs) ⟨f3, by simpa using f4, hd.u hw, hb.u hw, Chg.of_below hw, Nat.le_refl _⟩
      (fun x => (a1.put (some 9) (.slice (some (ad.add (256 * x.val))) 256 256)).put (some 6) (.slice (some (ad.add (256 * x.val))) 256 256)) ?assign ?body ?done ?stop
    · obtain ⟨s1, s2, s3, s4, s5, s6⟩ := hs
      have sw := hw.size
      refine ⟨blk_noncell s1 hg hr, blk_noncell s2 hg hr, s3.k hg (fun k e => by have := (hr k e).1; omega), s4.k hg (fun k e => by have := (hr k e).1; omega), s5.andNew hg (fun k e => by have := (hr k e).1; omega), Nat.le_trans s6 hg.size⟩
    case assign =>
      intro l x W K hKK
      have hrep := ha.put (d := 9) rfl (.slice (some (ad.add (256 * x.val))) 256 256)
      have e : ({ tmps := (#[9].zip (encsW (some ad) M x)).foldl (fun t (p, v) => t.setIfInBounds p v) a1.tmps, defers := [] } : Act) = a1.put (some 9) (.slice (some (ad.add (256 * x.val))) 256 256) := by
        simp [encsW, Act.put, ha.defers]
      rw [e]
      refine wpIn_region_lit (wpListIn_plain rfl (fun K' hK' => ⟨fun _ _ => trivial, ?_⟩))
      have hrun := (o_assign (P := Tryz.prog) (w := W) (ty := 35) (x := .tmp 9) rfl : OpV Tryz.prog _ _ W _ 35 (.slice (some (ad.add (256 * x.val))) 256 256) W) _ hrep
      show Oper.uponIn _ _ _ _ _ _ _ (Sem.run Tryz.prog (Oper.semAt (some l) _ _) W)
      rw [semAt_plain rfl, hrun _ rfl rfl]
      exact hK' _ _ (wpListIn_nil hKK)
    case body =>
      clear f3 f4 fg fh
      rintro l0 pre x W ⟨s1, s2, s3, s4, s5, s6⟩ hlt
      have hxM := x.isLt
      have hrep : Rep Tryz.f42.ntmps ((a1.put (some 9) (.slice (some (ad.add (256 * x.val))) 256 256)).put (some 6) (.slice (some (ad.add (256 * x.val))) 256 256)) [(6, .slice (some (ad.add (256 * x.val))) 256 256), (4, .pointer (some ⟨g4, 0, none⟩)), (3, .pointer (some ⟨g3, 0, none⟩))] :=
        ((ha.put (d := 9) rfl _).put (d := 6) rfl _).le (Fr.le_of_sub (by repeat' constructor))
      obtain ⟨ch, hch⟩ : ∃ q, (b.drop (256 * x.val)).take 256 = q := ⟨_, rfl⟩
      have hcl : ch.length = 256 := by rw [← hch, List.length_take, List.length_drop]; omega
      have r0 : Rd W (some (ad.add (256 * x.val))) (b.drop (256 * x.val)) := by
        have := Rd.cut (c := c) (k := 256 * x.val) s4.r (by omega) (by omega)
        unfold cutA at this
        rw [if_neg (by omega), Nat.mul_one] at this
        exact this
      have r1 : Rd W (some (ad.add (256 * x.val))) ch := by
        rw [← hch]
        exact r0.take (by rw [List.length_drop]; omega)
      obtain ⟨D, hD⟩ : ∃ D, wrs C n (pre.map fun x => secOf ((b.drop (256 * x.val)).take 256)) = D := ⟨_, rfl⟩
      obtain ⟨D2, hD2⟩ : ∃ D2, D.set (n + pre.length) (some (secOf ch)) = D2 := ⟨_, rfl⟩
      have hDl : wrs C n ((pre ++ [x]).map fun x => secOf ((b.drop (256 * x.val)).take 256)) = D2 := by
        rw [List.map_append, List.map_singleton, wrs_snoc, hD, List.length_map, hch, hD2]
      have hwr : wrC S D ((n : Int) + pre.length) ch = (D2, 0) := by
        unfold wrC
        rw [dif_pos ⟨by omega, hcl⟩, ← hD2, show secOf ch = ⟨ch, hcl⟩ from Subtype.ext (secOf_val hcl), show ((n : Int) + pre.length).toNat = n + pre.length by omega]
      rw [hD] at s3
      have sz1 := s1.lt
      have sz2 := s2.lt
      have hdl := hd.hi
      have sw := hw.size
      have hSl := s3.n2
      refine wpIn_block (wpIn_mono ((in_seq (I1 := fun a' W' => Rep Tryz.f42.ntmps a' [(4, .pointer (some ⟨g4, 0, none⟩)), (3, .pointer (some ⟨g3, 0, none⟩))] ∧ Blk W' g3 26 [.pointer (some ⟨gd, 0, none⟩)] ∧ Blk W' g4 3 [.int .i64 ((n : Int) + pre.length)] ∧ DkAt W' dl dh gd S D2 ∧ RdB W' rlo rhi (some ad) b ∧ Chg dl dh W W') (in_plain ?_) ?_ : RIn Tryz.prog Tryz.f42 Tryz.f42.ntmps (fun _ W' => KeepsFrom w1.heap.size W W' ∧ KpB g h W W' ∧ Blk W' g3 26 [.pointer (some ⟨gd, 0, none⟩)] ∧ Blk W' g4 3 [.int .i64 ((n : Int) + pre.length + 1)] ∧ DkAt W' dl dh gd S D2 ∧ RdB W' rlo rhi (some ad) b ∧ Chg dl dh w W' ∧ w1.heap.size ≤ W'.heap.size) _ _ _ _ _) _ hrep) (fun e a W' he => ?_))
      · clear ha hrep
        have hcg : Chg dl dh W W := Chg.refl
        clear s5
        have wa : (Lit.int .i64 ((n : Int) + pre.length)).wf = true := i64_wf (by omega)
        refine wl_r (o_loadbg Tryz.isAgg26 rfl s1 (by rfl)) ?_
        refine wl_r (o_loadbg Tryz.isAgg3 rfl s2 (by rfl)) ?_
        refine wl_p (fun _ => o_move rfl) ?_
        refine wl_call rfl (C_dWriteN _ s3 r1 hwr wa (by omega) (by omega)) ?_
        rintro v13 w13 ⟨rfl, ⟨f13, g13⟩⟩
        dsimp only at f13
        dsimp only
        have s13 := g13.size
        replace hcg := hcg.trans (g13.wide (by omega) (by omega))
        replace s4 := s4.c g13 (by omega)
        replace s2 := s2.c g13 (by omega)
        replace s1 := s1.c g13 (by omega)
        clear s3
        clear r1
        clear r0
        refine wl_nil ?_
        refine rk_inv fun a ha => ?_
        exact ⟨ha.le (Fr.le_of_sub (by repeat' constructor)), s1, s2, f13, s4, hcg⟩
      · rintro a2 W2 ⟨ha2, s1, s2, s3, s4, hcg⟩
        refine (in_plain ?_ : RIn _ _ _ _ _ _ _ _ _) a2 ha2
        have hcg0 := hcg
        have sg := hcg.size
        clear ha hrep
        refine wl_r (o_loadbg Tryz.isAgg3 rfl s2 (by rfl)) ?_
        refine wl_p (fun _ => o_add rfl rfl (by omega) (by omega)) ?_
        refine wl_storeg1 Tryz.sizeOf3 rfl rfl (by rfl) s2 (by simp) ?_
        rintro w_1 f g_1 e
        have s := g_1.size
        replace s4 := s4.k g_1.g (ap_some (by omega))
        replace s3 := s3.k g_1.g (ap_some (by omega))
        replace s1 := s1.k g_1.g (ap_some (by omega))
        clear s2
        refine wl_nil ?_
        have hG : Grew W2 w_1 3 (some g4) := by assumption
        refine rk_inv fun a ha => ?_
        exact ⟨(keeps_chg hcg0 (by omega)).trans (KeepsFrom.of_grownBy hG.g (fun j e => by injection e with e; omega)), ⟨by rw [hG.g.block g (by omega) (by intro e; injection e with e; omega), hcg0.block g (by omega) (.inr (by omega))], by rw [hG.g.block h (by omega) (by intro e; injection e with e; omega), hcg0.block h (by omega) (.inr (by omega))]⟩, s1, f, s3, s4, (s5.trans hcg0).andNew hG.g (fun j e => by injection e with e; omega), by have := hG.g.size; omega⟩
      · obtain ⟨rfl, h1, h2, h3, h4, h5, h6, h7, h8⟩ := kpost_inv he
        exact ⟨h1, h2, h3, by rw [show ((n : Int) + ((pre ++ [x]).length : Nat)) = n + pre.length + 1 by simp; omega]; exact h4, by rw [hDl]; exact h5, h6, h7, h8⟩
    case done =>
      rintro D xs W hD rfl ⟨s1, s2, s3, s4, s5, s6⟩ hKD
      have sw := hw.size
      have e1 : (List.finRange M).map (fun x => secOf ((b.drop (256 * x.val)).take 256)) = secsN M b := by
        apply List.ext_getElem (by rw [List.length_map, List.length_finRange, secsN_len])
        intro i h1 h2
        rw [secsN_len] at h2
        rw [secsN_get M b i h2]
        simp
      rw [e1, hC] at s3
      show LeavesInM Fence.wide 3 Tryz.prog _ a1.tmps _ (_ :: a1.defers) .returning W
      rw [ha.defers]
      refine ⟨by simp, .inl ⟨D, _, rfl, run_takeDeferred hKD, ?_⟩⟩
      have s7 := s3.k (grownBy_putObj' W D (.deferred none)) (fun k e => by injection e with e; omega)
      have s8 := s5.andNew (grownBy_putObj' W D (.deferred none)) (fun k e => by injection e with e; omega)
      exact ⟨.tuple #[], by simp [results, show Tryz.f42.results = #[] from rfl], _, rfl, rfl, s7, s8⟩
    case stop => exact fun D c pre W _ _ h _ => h.elim
end Go.Proofs.YtnnhenafhalobaaGreat
/-
  The reader of package octet, in the form that the search applies: what is left, and the error.
-/
namespace Go.Proofs.YtnnhenafhalobaaGreat
set_option maxRecDepth 100000
open Go.RowKit

/-- The reader at block g: what is left, and its error. -/
def Rdr (w : World) (g : Nat) (s : RS) : Prop := ∃ l p, RdrI w g l p s.2 ∧ s.1 = l.drop p
section
variable {w w' : World} {g p : Nat} {l : List UInt8} {s : RS}
theorem RdrI.rdr (h : RdrI w g l p s.2) (hs : s.1 = l.drop p) : Rdr w g s := ⟨l, p, h, hs⟩
theorem Rdr.u (h : Rdr w g s) (hb : Below w.heap.size w w') : Rdr w' g s := by
  obtain ⟨l, p, h, hs⟩ := h
  exact ⟨l, p, h.below hb, hs⟩
theorem Rdr.at_ (h : Rdr w g s) : TyAt w g 148 := by
  obtain ⟨l, p, h, hs⟩ := h
  obtain ⟨A, c, hB, -⟩ := h.blk'
  exact hB.at_
end
theorem grew_rdr {w w' : World} {g : Nat} {s : RS} (h : Rdr w g s) (hg : w.grownBy w' (some g)) : Grew w w' 148 (some g) := ⟨hg, fun k hk => by injection hk with hk; subst hk; exact h.at_⟩

/-- What the reader's methods give (named, so that it is taken from what is known). -/
structure WordR (size : Int) (l : List UInt8) (e v : Nat) (l' : List UInt8) (e' : Nat) : Prop where
  h : rWord size (l, e) = (v, (l', e'))
theorem C_rRead {A : Option Addr} {l : List UInt8} {k c : Nat} (w : World) (hr : Rd w A l) (hk : k = l.length) (hl : l.length ≤ 4000000000) :
    CallsR Tryz.prog 86 [.slice A k c] w fun v w' => ∃ g, v = .pointer (some ⟨g, 0, none⟩) ∧ w.heap.size ≤ g ∧ g < w'.heap.size ∧ Rdr w' g (l, 0) ∧ Below w.heap.size w w' :=
  (C_Read c hk w hr (by omega)).mono fun _ _ ⟨g, hv, hg, hlt, hR, hb⟩ => ⟨g, hv, hg, hlt, hR.rdr (s := (l, 0)) rfl, hb⟩
theorem C_rWord {g e e' v : Nat} {l l' : List UInt8} {size : Int} (w : World) (hR : Rdr w g (l, e)) (hr : WordR size l e v l' e') :
    CallsR Tryz.prog 87 [.pointer (some ⟨g, 0, none⟩), .int .i64 size] w fun x w' => x = .int .u64 (v : Int) ∧ Rdr w' g (l', e') ∧ Grew w w' 148 (some g) ∧ Chg g (g + 1) w w' := by
  have hR0 := hR
  obtain ⟨m, q, h, hs⟩ := hR
  obtain rfl : l = m.drop q := hs
  refine (C_RWord size w h).mono ?_
  rintro v w' ⟨rfl, hg, p', hR, hs⟩
  dsimp only at hR hs ⊢
  rw [hr.h] at hR hs ⊢
  exact ⟨rfl, hR.rdr (s := (l', e')) hs, grew_rdr hR0 hg, Chg.of_g1 hg (Nat.le_refl _) (by omega)⟩
end Go.Proofs.YtnnhenafhalobaaGreat
/-
  Walks of package journal: a head read; sectors read.
-/
namespace Go.Proofs.YtnnhenafhalobaaGreat
set_option maxRecDepth 100000
open Go.RowKit
theorem rWord8 {b : By} (h : 12 ≤ b.length) : rWord 8 (b, 0) = (leVal (b.take 8), (b.drop 8, 0)) := by
  unfold rWord rTake
  rw [show clampN 8 = 8 from rfl]
  dsimp only
  rw [if_neg (fun h => h rfl), if_neg (by omega)]
theorem rWord4 {b : By} (h : 12 ≤ b.length) : rWord 4 (b.drop 8, 0) = (leVal ((b.drop 8).take 4), (b.drop 12, 0)) := by
  unfold rWord rTake
  rw [show clampN 4 = 4 from rfl]
  dsimp only
  rw [if_neg (fun h => h rfl), if_neg (by rw [List.length_drop]; omega), List.drop_drop]
/-- The epoch and the area that a sector's bytes say. -/
def headE (b : By) : Nat := leVal (b.take 8)
def headA (b : By) : Nat := leVal ((b.drop 8).take 4)
def HeadOk (b : By) (k : Nat) : Prop := headE b % 2 = k ∧ (1 ≤ headA b ∧ headA b ≤ 256) ∧ b = headB (headE b) (headA b)
instance (b : By) (k : Nat) : Decidable (HeadOk b k) := by unfold HeadOk; infer_instance
theorem headE_lt (b : By) : headE b < 18446744073709551616 := by
  have h1 := leVal_lt (b.take 8)
  have h2 : (b.take 8).length ≤ 8 := by rw [List.length_take]; omega
  have h3 := Nat.pow_le_pow_right (show 0 < 256 by omega) h2
  unfold headE
  omega
theorem headA_lt (b : By) : headA b < 4294967296 := by
  have h1 := leVal_lt ((b.drop 8).take 4)
  have h2 : ((b.drop 8).take 4).length ≤ 4 := by rw [List.length_take]; omega
  have h3 := Nat.pow_le_pow_right (show 0 < 256 by omega) h2
  unfold headA
  omega
set_option maxRecDepth 100000 in
theorem K_readHead {dl dh gd k : Nat} {S : List Sec} {C : List (Option Sec)} {b : By} {z : Int} (w : World) (hd : DkAt w dl dh gd S C) (hz : z = k) (hk : k < 2) (hr : rdD S C k = (b, 0)) (hl : b.length = 256) :
    CallsR Tryz.prog 60 [.pointer (some ⟨gd, 0, none⟩), .int .i64 z] w fun v w' => ∃ (x : Nat) (y : Int), v = .tuple #[.int .u64 (x : Int), .int .i64 y, .bool (decide (HeadOk b k))] ∧ (HeadOk b k → x = headE b ∧ y = headA b) ∧ Below w.heap.size w w' := by
  subst hz
  obtain ⟨e, he⟩ : ∃ e, headE b = e := ⟨_, rfl⟩
  obtain ⟨a, ha⟩ : ∃ a, headA b = a := ⟨_, rfl⟩
  have e1 : WordR 8 b 0 e (b.drop 8) 0 := ⟨by rw [rWord8 (by omega), ← he]; rfl⟩
  have e2 : WordR 4 (b.drop 8) 0 a (b.drop 12) 0 := ⟨by rw [rWord4 (by omega), ← ha]; rfl⟩
  have hel : e < 18446744073709551616 := he ▸ headE_lt b
  have hal : a < 4294967296 := ha ▸ headA_lt b
  have wk : (Lit.int .i64 (k : Int)).wf = true := i64_wf (by omega)
  have hP : HeadOk b k ↔ e % 2 = k ∧ (1 ≤ a ∧ a ≤ 256) ∧ b = headB e a := by unfold HeadOk; rw [he, ha]
  rw [he, ha]
  refine callsR Tryz.func60 rfl rfl (by kernel_rfl) rfl ?_
  have hw := Below.refl w.heap.size w
  refine rk_seq ?_
  refine rk_region ?_
  refine wl_p (fun _ => o_assign rfl) ?_
  refine wl_p (fun _ => o_assign rfl) ?_
  refine wl_p (fun _ => o_assign rfl) ?_
  refine wl_nil ?_
  refine rk_seq ?_
  refine rk_region ?_
  refine wl_p (fun _ => o_move rfl) ?_
  refine wl_p (fun _ => o_move rfl) ?_
  refine wl_call rfl (C_dReadN _ hd hr wk) ?_
  rintro v15 w15 ⟨A15, ⟨c15, ⟨rfl, ⟨f15, ⟨i15, b15⟩⟩⟩⟩⟩
  dsimp only at f15
  dsimp only at i15
  dsimp only
  have s15 := b15.size
  replace hw := hw.trans (b15.mono hw.size)
  refine wl_p (fun _ => o_move rfl) ?_
  refine wl_p (fun _ => o_ext20 rfl) ?_
  refine wl_p (fun _ => o_ext21 rfl) ?_
  refine wl_p (fun _ => o_assign rfl) ?_
  refine wl_p (fun _ => o_assign rfl) ?_
  refine wl_nil ?_
  refine rk_seq ?_
  refine rk_seq ?_
  refine rk_region ?_
  refine wl_p (fun _ => o_move rfl) ?_
  refine wl_p (fun _ => o_ne rfl rfl) ?_
  refine wl_nil ?_
  refine rk_false rfl ?_
  refine rk_skip ?_
  refine rk_seq ?_
  refine rk_region ?_
  refine wl_p (fun _ => o_move rfl) ?_
  refine wl_call rfl (C_rRead _ f15.to_Rd rfl (by omega)) ?_
  rintro v21 w21 ⟨g21, ⟨rfl, ⟨i21, ⟨i21_1, ⟨f21, b21⟩⟩⟩⟩⟩
  have s21 := b21.size
  replace hw := hw.trans (b21.mono hw.size)
  replace f15 := f15.u b21
  refine wl_p (fun _ => o_assign rfl) ?_
  refine wl_nil ?_
  refine rk_seq ?_
  refine rk_region ?_
  refine wl_p (fun _ => o_move rfl) ?_
  refine wl_call rfl (C_rWord _ f21 e1) ?_
  rintro v23 w23 ⟨rfl, ⟨f23, ⟨g23, g23_1⟩⟩⟩
  have s23 := g23.size
  replace hw := hw.trans (below_of_grownBy g23.g hw.size (by omega))
  replace f15 := f15.k g23.g (ap_some (by omega))
  clear f21
  refine wl_p (fun _ => o_move rfl) ?_
  refine wl_call rfl (C_rWord _ f23 e2) ?_
  rintro v25 w25 ⟨rfl, ⟨f25, ⟨g25, g25_1⟩⟩⟩
  have s25 := g25.size
  replace hw := hw.trans (below_of_grownBy g25.g hw.size (by omega))
  replace f15 := f15.k g25.g (ap_some (by omega))
  clear f23
  refine wl_p (fun _ => o_convi64 (src := 52) (dst := 3) Tryz.underlying52 Tryz.underlying3 rfl (by omega) (by omega)) ?_
  refine wl_p (fun _ => o_assign rfl) ?_
  refine wl_p (fun _ => o_assign rfl) ?_
  refine wl_nil ?_
  refine rk_seq ?_
  refine rk_seq ?_
  refine rk_region ?_
  refine wl_p (fun _ => o_move rfl) ?_
  refine wl_p (fun _ => o_remu rfl rfl (by omega) (by omega)) ?_
  refine wl_p (fun _ => o_move rfl) ?_
  refine wl_p (fun _ => o_convu64 (src := 3) (dst := 52) Tryz.underlying3 Tryz.underlying52 rfl (by omega) (by omega)) ?_
  refine wl_p (fun _ => o_ne rfl rfl) ?_
  refine wl_p (fun _ => o_move rfl) ?_
  by_cases h1 : e % 2 = k
  · by_cases h2 : 1 ≤ a ∧ a ≤ 256
    · have h3 : 1 ≤ (a : Int) ∧ (a : Int) ≤ 256 := by omega
      obtain ⟨hb, hhb⟩ : ∃ hb, headB e a = hb := ⟨_, rfl⟩
      refine wl_know 32 false rfl (decide_eq_false (by omega)) ?_
      refine wl_p (fun _ => o_move rfl) ?_
      refine wl_call rfl (C_jSectorsY _ (by omega)) ?_
      rintro v34 w34 ⟨rfl, rfl⟩
      refine wl_p (fun _ => o_eq rfl rfl) ?_
      refine wl_p (fun _ => o_pick_f rfl rfl) ?_
      refine wl_nil ?_
      refine rk_if rfl (fun h36 => absurd h36 (by omega)) (fun h36 => ?_)
      refine rk_skip ?_
      refine rk_seq ?_
      refine rk_region ?_
      refine wl_p (fun _ => o_move rfl) ?_
      refine wl_p (fun _ => o_move rfl) ?_
      refine wl_p (fun _ => o_move rfl) ?_
      refine wl_p (fun _ => o_move rfl) ?_
      refine wl_p (fun _ => o_move rfl) ?_
      refine wl_call rfl (C_headBytes _ rfl rfl hhb (by omega) (by omega)) ?_
      rintro v42 w42 ⟨A42, ⟨c42, ⟨rfl, ⟨f42, ⟨e42, b42⟩⟩⟩⟩⟩
      have qf42 := f42.cap
      have s42 := b42.size
      replace hw := hw.trans (b42.mono hw.size)
      replace f15 := f15.u b42
      replace f25 := f25.u b42
      refine wl_call rfl (C_bEqual _ f15.to_Rd f42.to_Rd rfl (by omega)) ?_
      rintro v43 w43 ⟨rfl, b43⟩
      have s43 := b43.size
      replace hw := hw.trans (b43.mono hw.size)
      replace f25 := f25.u b43
      replace f15 := f15.u b43
      replace f42 := f42.u b43
      refine wl_p (fun _ => o_assign rfl) ?_
      refine wl_p (fun _ => o_assign rfl) ?_
      refine wl_p (fun _ => o_assign rfl) ?_
      refine wl_nil ?_
      refine ret_any (vs := [.int .u64 (e : Int), .int .i64 (a : Int), .bool (decide (b = hb))]) rfl (.tmp rfl (.tmp rfl (.tmp rfl .nil))) (by simp) ?_
      exact ⟨e, a, by rw [decide_eq_decide.2 (show b = hb ↔ HeadOk b k by rw [hP, hhb]; exact ⟨fun h => ⟨h1, h2, h⟩, fun h => h.2.2⟩)], fun _ => ⟨rfl, rfl⟩, hw⟩
    · have h3 : ¬(1 ≤ (a : Int) ∧ (a : Int) ≤ 256) := by omega
      have hno : ¬HeadOk b k := fun h => h2 (hP.1 h).2.1
      refine wl_know 32 false rfl (decide_eq_false (by omega)) ?_
      refine wl_p (fun _ => o_move rfl) ?_
      refine wl_call rfl (C_jSectorsN _ (by omega)) ?_
      rintro v34 w34 ⟨rfl, rfl⟩
      refine wl_p (fun _ => o_eq rfl rfl) ?_
      refine wl_p (fun _ => o_pick_f rfl rfl) ?_
      refine wl_nil ?_
      refine rk_true rfl ?_
      refine rk_seq ?_
      refine rk_region ?_
      refine wl_p (fun _ => o_assign rfl) ?_
      refine wl_p (fun _ => o_assign rfl) ?_
      refine wl_p (fun _ => o_assign rfl) ?_
      refine wl_nil ?_
      refine ret_any (vs := [.int .u64 0, .int .i64 0, .bool false]) rfl (.tmp rfl (.tmp rfl (.tmp rfl .nil))) (by simp) ?_
      exact ⟨0, 0, by rw [decide_eq_false hno]; rfl, fun h => absurd h hno, hw⟩
  · have hno : ¬HeadOk b k := fun h => h1 (hP.1 h).1
    refine wl_know 32 true rfl (decide_eq_true (by omega)) ?_
    refine wl_off ?_
    refine wl_off ?_
    refine wl_off ?_
    refine wl_p (fun _ => o_pick_t rfl rfl) ?_
    refine wl_nil ?_
    refine rk_true rfl ?_
    refine rk_seq ?_
    refine rk_region ?_
    refine wl_p (fun _ => o_assign rfl) ?_
    refine wl_p (fun _ => o_assign rfl) ?_
    refine wl_p (fun _ => o_assign rfl) ?_
    refine wl_nil ?_
    refine ret_any (vs := [.int .u64 0, .int .i64 0, .bool false]) rfl (.tmp rfl (.tmp rfl (.tmp rfl .nil))) (by simp) ?_
    exact ⟨0, 0, by rw [decide_eq_false hno]; rfl, fun h => absurd h hno, hw⟩
end Go.Proofs.YtnnhenafhalobaaGreat
/-
  Walks of package journal: sectors read; the plain methods.
-/
namespace Go.Proofs.YtnnhenafhalobaaGreat
set_option maxRecDepth 100000
open Go.RowKit
theorem rdD_cur {S : List Sec} {C : List (Option Sec)} {i : Nat} (h : i < S.length) (hc : C.length = S.length) : rdD S C (i : Int) = (((cur S C)[i]'(by rw [cur_len]; exact h)).1, 0) := by
  unfold rdD
  rw [dif_pos ⟨by omega, by omega⟩, cur_get S C i h (by omega)]
  unfold cAt
  rw [if_pos (by omega)]
  simp only [Int.toNat_natCast]
  rw [List.getElem?_eq_getElem (by omega)]
  rfl
theorem areaB_zero (T : List Sec) (n : Nat) : areaB T n 0 = [] := by unfold areaB; rw [List.take_zero]; rfl
theorem areaB_succ {T : List Sec} {n k : Nat} (h : n + k < T.length) : areaB T n (k + 1) = areaB T n k ++ T[n + k].1 := by
  unfold areaB
  rw [List.take_succ_eq_append_getElem (by rw [List.length_drop]; omega), img_append, List.getElem_drop]
  simp [img]
set_option maxHeartbeats 1000000 in
theorem C_jRead {dl dh gd n k : Nat} {S : List Sec} {C : List (Option Sec)} {r : By} {z y : Int} (w : World) (hd : DkAt w dl dh gd S C) (hz : z = n) (hy : y = k) (hr : areaB (cur S C) n k = r) (hn : n + k ≤ S.length) :
    CallsR Tryz.prog 52 [.pointer (some ⟨gd, 0, none⟩), .int .i64 z, .int .i64 y] w fun v w' => ∃ A' c', v = .slice A' r.length c' ∧ OwnH w' w.heap.size w'.heap.size A' c' r ∧ Below w.heap.size w w' := by
  subst hz; subst hy; subst hr
  have hS := hd.n2
  have hCl := hd.len
  refine callsR Tryz.func52 rfl rfl (by kernel_rfl) rfl ?_
  have hw := Below.refl w.heap.size w
  refine rk_seq ?_
  refine rk_region ?_
  refine wl_p (fun _ => o_assign rfl) ?_
  refine wl_nil ?_
  refine rk_seq ?_
  refine rk_region ?_
  refine wl_p (fun _ => o_assign rfl) ?_
  refine wl_nil ?_
  refine rk_seq ?_
  refine rk_seq ?_
  refine rk_region ?_
  refine wl_p (fun _ => o_move rfl) ?_
  refine wl_p (fun _ => o_move rfl) ?_
  refine wl_nil ?_
  refine rk_block ?_
  refine rk_joinf (fun fb fr w3 => ∃ A' c', fr = [(7, .slice A' (areaB (cur S C) n k).length c')] ++ fb.drop 3 ∧ OwnH w3 w.heap.size w3.heap.size A' c' (areaB (cur S C) n k) ∧ Below w.heap.size w w3) ?_ (fun ks hj => ?_)
  rotate_left
  · refine rk_loopf (fun fb m fr w3 => ∃ (i : Nat) (v : Int) (A' : Option Addr) (c' : Nat) (q : By), fr = [(12, .int .i64 v), (11, .int .i64 (k : Int)), (7, .slice A' q.length c')] ++ fb.drop 3 ∧ v = i ∧ i ≤ k ∧ m = k - i ∧ q = areaB (cur S C) n i ∧ q.length = 256 * i ∧ OwnH w3 w.heap.size w3.heap.size A' c' q ∧ Below w.heap.size w w3) (n := k) (Fr.le_of (by kernel_rfl) (by kernel_rfl) (by repeat' constructor)) ⟨0, _, none, 0, [], rfl, rfl, by omega, rfl, by rw [areaB_zero], rfl, OwnH.nil_, hw⟩ ?_
    clear hw
    rintro m fr w3 ⟨i, v, A', c', q, rfl, rfl, hi, rfl, hq, hql, fo, hw⟩
    have shw := hw.size
    first | refine rk_frame (by simp only [List.cons_append, List.nil_append, List.drop_succ_cons, List.drop_zero]; rfl) ?_ | refine wl_frame (by simp only [List.cons_append, List.nil_append, List.drop_succ_cons, List.drop_zero]; rfl) ?_
    by_cases hik : i < k
    · have hrd : rdD S C ((n : Int) + i) = (((cur S C)[n + i]'(by rw [cur_len]; omega)).1, 0) := by
        have := rdD_cur (S := S) (C := C) (i := n + i) (by omega) hCl
        rwa [show (((n + i : Nat)) : Int) = (n : Int) + i by omega] at this
      obtain ⟨sb, hsb⟩ : ∃ sb, ((cur S C)[n + i]'(by rw [cur_len]; omega)).1 = sb := ⟨_, rfl⟩
      have hsl : sb.length = 256 := by rw [← hsb]; exact ((cur S C)[n + i]'(by rw [cur_len]; omega)).2
      have hnx := areaB_succ (T := cur S C) (n := n) (k := i) (by rw [cur_len]; omega)
      rw [hsb] at hrd hnx
      have wa : (Lit.int .i64 ((n : Int) + i)).wf = true := i64_wf (by omega)
      refine rk_seq ?_
      refine rk_region ?_
      refine wl_p (fun _ => o_lt rfl rfl) ?_
      refine wl_nil ?_
      refine rk_seq ?_
      refine rk_if rfl (fun h13 => ?_) (fun h13 => h13.elim (by omega))
      refine rk_skip ?_
      refine rk_seq ?_
      refine rk_block ?_
      refine rk_seq ?_
      refine rk_region ?_
      refine wl_p (fun _ => o_move rfl) ?_
      refine wl_p (fun _ => o_assign rfl) ?_
      refine wl_nil ?_
      refine rk_seq ?_
      refine rk_region ?_
      refine wl_p (fun _ => o_move rfl) ?_
      refine wl_p (fun _ => o_move rfl) ?_
      refine wl_p (fun _ => o_move rfl) ?_
      refine wl_p (fun _ => o_add rfl rfl (by omega) (by omega)) ?_
      refine wl_call rfl (C_dReadN _ (hd.u hw) hrd wa) ?_
      rintro v20 w20 ⟨A20, ⟨c20, ⟨rfl, ⟨f20, ⟨i20, b20⟩⟩⟩⟩⟩
      dsimp only at f20
      dsimp only at i20
      dsimp only
      have s20 := b20.size
      replace hw := hw.trans (b20.mono hw.size)
      replace fo := fo.u b20
      refine wl_p (fun _ => o_move rfl) ?_
      refine wl_p (fun _ => o_ext20 rfl) ?_
      refine wl_p (fun _ => o_ext21 rfl) ?_
      refine wl_p (fun _ => o_assign rfl) ?_
      refine wl_p (fun _ => o_assign rfl) ?_
      refine wl_nil ?_
      refine rk_region ?_
      refine wl_p (fun _ => o_move rfl) ?_
      refine wl_p (fun _ => o_move rfl) ?_
      refine wl_appB Tryz.u8 rfl fo rfl rfl f20.to_Rd rfl (by omega) hw.size ?_
      rintro A25 c25 w25 f25 g25 b25 i25
      have qf25 := f25.cap
      have s25 := g25.size
      replace hw := hw.trans (b25.mono (by omega))
      replace f20 := f20.k g25.g (fo.ap (by omega))
      clear fo
      refine wl_p (fun _ => o_assign rfl) ?_
      refine wl_nil ?_
      refine rk_blk ?_
      refine rk_region ?_
      refine wl_p (fun _ => o_add rfl rfl (by omega) (by omega)) ?_
      refine wl_p (fun _ => o_move rfl) ?_
      refine wl_nil ?_
      exact rk_againf (Fr.le_of (by kernel_rfl) (by kernel_rfl) (by repeat' constructor)) ⟨i + 1, (i : Int) + 1, A25, c25, q ++ sb, rfl, by omega, by omega, rfl, by rw [hnx, hq], by rw [List.length_append]; omega, f25.base (by omega) (by omega), hw⟩ (by omega)
    · refine rk_seq ?_
      refine rk_region ?_
      refine wl_p (fun _ => o_lt rfl rfl) ?_
      refine wl_nil ?_
      refine rk_seq ?_
      refine rk_if rfl (fun h13 => absurd h13 (by omega)) (fun h13 => ?_)
      refine rk_exit rfl ?_
      obtain rfl : i = k := by omega
      subst hq
      exact rk_tof hj (Fr.le_of (by kernel_rfl) (by kernel_rfl) (by repeat' constructor)) ⟨A', c', rfl, fo, hw⟩
  clear hw
  rintro fr w3 ⟨A', c', rfl, fo, hw⟩
  have shw := hw.size
  first | refine rk_frame (by simp only [List.cons_append, List.nil_append, List.drop_succ_cons, List.drop_zero]; rfl) ?_ | refine wl_frame (by simp only [List.cons_append, List.nil_append, List.drop_succ_cons, List.drop_zero]; rfl) ?_
  refine rk_seq ?_
  refine rk_region ?_
  refine wl_p (fun _ => o_move rfl) ?_
  refine wl_p (fun _ => o_assign rfl) ?_
  refine wl_nil ?_
  refine ret1 rfl rfl ?_
  exact ⟨_, _, rfl, fo, hw⟩
section
variable {g n c : Nat} {d L : Option Addr} {a t k s : Int} {e : Nat} {ch : By}
theorem C_jValid (w : World) (hB : Blk w g 85 (jC (some ⟨g, 0, none⟩) d a e L n c t ch k s)) : CallsR Tryz.prog 48 [.pointer (some ⟨g, 0, none⟩)] w fun v w' => v = .bool true ∧ w' = w := by
  refine callsR Tryz.func48 rfl rfl (by kernel_rfl) rfl ?_
  refine rk_seq ?_
  refine rk_region ?_
  refine wl_p (fun _ => o_assign rfl) ?_
  refine wl_nil ?_
  refine rk_seq ?_
  refine rk_region ?_
  refine wl_p (fun _ => o_move rfl) ?_
  refine wl_p (fun _ => o_pne_nil (t := 31) Tryz.underlying31 rfl rfl) ?_
  refine wl_p (fun _ => o_move rfl) ?_
  refine wl_p (fun _ => o_move rfl) ?_
  refine wl_p (fun _ => o_nil rfl) ?_
  refine wl_p (fun _ => o_faddr (s := 85) (i := 0) (off := 0) Tryz.underlying85 rfl Tryz.sizeOf31 rfl rfl rfl) ?_
  refine wl_r (o_loadbg Tryz.isAgg31 rfl hB (by rfl)) ?_
  refine wl_p (fun _ => o_move rfl) ?_
  refine wl_p (fun _ => o_peq_same (t := 31) Tryz.underlying31 Tryz.sizeOf85 rfl rfl) ?_
  refine wl_p (fun _ => o_pick_t rfl rfl) ?_
  refine wl_p (fun _ => o_assign rfl) ?_
  refine wl_nil ?_
  refine ret1 rfl rfl ?_
  exact ⟨rfl, rfl⟩
theorem C_jStart {x : Int} (w : World) (h : 0 ≤ x ∧ x ≤ 100000) : CallsR Tryz.prog 44 [.int .i64 x] w fun v w' => v = .int .i64 (x * 256) ∧ Below w.heap.size w w' := by
  refine callsR Tryz.func44 rfl rfl (by kernel_rfl) rfl ?_
  have hw := Below.refl w.heap.size w
  refine rk_seq ?_
  refine rk_region ?_
  refine wl_p (fun _ => o_assign rfl) ?_
  refine wl_nil ?_
  refine rk_seq ?_
  refine rk_region ?_
  refine wl_p (fun _ => o_move rfl) ?_
  refine wl_p (fun _ => o_mul rfl rfl (by omega) (by omega)) ?_
  refine wl_p (fun _ => o_assign rfl) ?_
  refine wl_nil ?_
  refine ret1 rfl rfl ?_
  exact ⟨rfl, hw⟩
theorem C_jLeft {z : Int} (w : World) (hB : Blk w g 85 (jC (some ⟨g, 0, none⟩) d a e L n c t ch k s)) (hz : a * 256 - t = z) (ha : 0 ≤ a ∧ a ≤ 256) (ht : 0 ≤ t ∧ t ≤ 100000) : CallsR Tryz.prog 13 [.pointer (some ⟨g, 0, none⟩)] w fun v w' => v = .int .i64 z ∧ Below w.heap.size w w' := by
  subst hz
  refine callsR Tryz.func13 rfl rfl (by kernel_rfl) rfl ?_
  have hw := Below.refl w.heap.size w
  refine rk_seq ?_
  refine rk_region ?_
  refine wl_p (fun _ => o_assign rfl) ?_
  refine wl_nil ?_
  refine rk_seq ?_
  refine rk_seq ?_
  refine rk_region ?_
  refine wl_p (fun _ => o_move rfl) ?_
  refine wl_call rfl (C_jValid _ hB) ?_
  rintro v4 w4 ⟨rfl, rfl⟩
  refine wl_p (fun _ => o_not rfl) ?_
  refine wl_nil ?_
  refine rk_false rfl ?_
  refine rk_skip ?_
  refine rk_seq ?_
  refine rk_drawo (id := 3) (none) [0, 1, 2, 4, 8, 0, 32, 64, 128, 272, 1023] [0, 1, 3, 7, 15, 0, 32, 96, 224, 511, 1023] 16 16 [0, 1, 2, 3, 5, 6, 7, 8, 4, 9, 10] [(.p, 0), (.p, 1), (.p, 2), (.r, 3), (.p, 5), (.p, 6), (.p, 7), (.s, 8), (.c, 4), (.p, 9), (.p, 10)] (by kernel_rfl) (by kernel_rfl) (by kernel_rfl) (by kernel_rfl) (by kernel_rfl) ?_
  dsimp only [inOrder, nthOp]
  replace hw := hw.drew
  refine wl_p (fun _ => o_move rfl) ?_
  refine wl_p (fun _ => o_nil rfl) ?_
  refine wl_p (fun _ => o_faddr (s := 85) (i := 2) (off := 2) Tryz.underlying85 rfl Tryz.sizeOf3 rfl rfl rfl) ?_
  refine wl_r (o_loadbg Tryz.isAgg3 rfl (hB.u hw) (by rfl)) ?_
  refine wl_p (fun _ => o_move rfl) ?_
  refine wl_p (fun _ => o_nil rfl) ?_
  refine wl_p (fun _ => o_faddr (s := 85) (i := 5) (off := 5) Tryz.underlying85 rfl Tryz.sizeOf80 rfl rfl rfl) ?_
  refine wl_s (fun _ hk => (o_loadbg Tryz.isAgg80 rfl ((hB.u hw).u (below_of_grown_none hk)) (by rfl))) ?_
  refine wl_call rfl (C_jStart _ (by omega)) ?_ (hq := .inr fun _ _ h => grown_of_below h.2 _)
  rintro v10 w10 ⟨rfl, b10⟩
  simp only [drew_size] at b10
  have s10 := b10.size
  simp only [drew_size] at s10
  replace hw := hw.trans (b10.mono hw.size)
  refine wl_p (fun _ => o_sub rfl rfl (by omega) (by omega)) ?_
  refine wl_p (fun _ => o_assign rfl) ?_
  refine wl_nild ?_
  refine ret1 rfl rfl ?_
  exact ⟨rfl, hw⟩
theorem C_jEpoch (w : World) (hB : Blk w g 85 (jC (some ⟨g, 0, none⟩) d a e L n c t ch k s)) : CallsR Tryz.prog 24 [.pointer (some ⟨g, 0, none⟩)] w fun v w' => v = .int .u64 (e : Int) ∧ Below w.heap.size w w' := by
  refine callsR Tryz.func24 rfl rfl (by kernel_rfl) rfl ?_
  have hw := Below.refl w.heap.size w
  refine rk_seq ?_
  refine rk_region ?_
  refine wl_p (fun _ => o_assign rfl) ?_
  refine wl_nil ?_
  refine rk_seq ?_
  refine rk_seq ?_
  refine rk_region ?_
  refine wl_p (fun _ => o_move rfl) ?_
  refine wl_call rfl (C_jValid _ hB) ?_
  rintro v4 w4 ⟨rfl, rfl⟩
  refine wl_p (fun _ => o_not rfl) ?_
  refine wl_nil ?_
  refine rk_false rfl ?_
  refine rk_skip ?_
  refine rk_seq ?_
  refine rk_region ?_
  refine wl_p (fun _ => o_move rfl) ?_
  refine wl_p (fun _ => o_nil rfl) ?_
  refine wl_p (fun _ => o_faddr (s := 85) (i := 3) (off := 3) Tryz.underlying85 rfl Tryz.sizeOf52 rfl rfl rfl) ?_
  refine wl_r (o_loadbg Tryz.isAgg52 rfl hB (by rfl)) ?_
  refine wl_p (fun _ => o_assign rfl) ?_
  refine wl_nil ?_
  refine ret1 rfl rfl ?_
  exact ⟨rfl, hw⟩
end
end Go.Proofs.YtnnhenafhalobaaGreat
/-
  Walks of package journal: a record's bytes put; Format.
-/
namespace Go.Proofs.YtnnhenafhalobaaGreat
set_option maxRecDepth 100000
open Go.RowKit
theorem C_jWriteH {dl dh gd n M c rlo rhi m : Nat} {S : List Sec} {C C' : List (Option Sec)} {A : Option Addr} {b : By} {z : Int} (w : World) (hd : DkAt w dl dh gd S C) (hb : OwnH w rlo rhi A c b) (hM : b.length = 256 * M) (hC : wrs C n (secsN M b) = C') (hz : z = n) (hm : m = b.length) (hM1 : 1 ≤ M) (hrd : rhi ≤ dl ∨ dh ≤ rlo) (hrs : rhi ≤ w.heap.size) (hn : n + M ≤ S.length) (hMx : M ≤ 10000) :
    CallsR Tryz.prog 42 [.pointer (some ⟨gd, 0, none⟩), .int .i64 z, .slice A m c] w fun v w' => v = .tuple #[] ∧ DkAt w' dl dh gd S C' ∧ Chg dl dh w w' := by
  subst hm
  have hc := hb.cap
  obtain ⟨bb, oo, rfl, _⟩ := hb.to_Rd.2 (by intro e; have := congrArg List.length e; rw [B8_length, List.length_nil] at this; omega)
  exact C_jWrite w hd hb.rdB hrd hrs hz hM (by omega) hn hMx hC
set_option maxRecDepth 100000 in
theorem K_jPut {g c lo hi e n cp : Nat} {d L A : Option Addr} {a k s : Int} {ch u b p : By} (w : World) (hB : Blk w g 85 (jC (some ⟨g, 0, none⟩) d a e L b.length c b.length ch k s)) (hL : OwnH w lo hi L c b) (hp : Rd w A p) (hn : n = p.length) (hch : ch.length = 32) (hu : u.length = 32) (hlo : lo ≤ w.heap.size) (hl1 : b.length ≤ 1000000) (hl2 : p.length ≤ 1000000) (hk : 0 ≤ k ∧ k ≤ 1000000) (hg : g < w.heap.size) :
    CallsR Tryz.prog 53 [.pointer (some ⟨g, 0, none⟩), .slice A n cp, .agg (B8 u).toArray] w fun v w' => v = .tuple #[] ∧ ∃ L' c', Blk w' g 85 (jC (some ⟨g, 0, none⟩) d a e L' (b ++ p).length c' (b ++ p).length u (k + 1) s) ∧ OwnH w' lo w'.heap.size L' c' (b ++ p) ∧ (blk L' = blk L ∨ ∀ k, blk L' = some k → w.heap.size ≤ k) ∧ ∃ w1, Grew w w1 5 (blk L) ∧ Grew w1 w' 85 (some g) := by
  subst hn
  refine callsR Tryz.func53 rfl rfl (by kernel_rfl) rfl ?_
  have hcg : Chg 0 w.heap.size w w := Chg.refl
  have hty := hL.to_RdT.2
  refine rk_seq ?_
  refine rk_region ?_
  refine wl_boxg _ rfl (by rfl) ?_
  rintro g5 w5 f5 b5 i5 i5_1
  have s5 := b5.size
  replace hcg := hcg.thenB b5
  replace hp := hp.u b5
  replace hL := hL.u b5
  replace hB := hB.u b5
  refine wl_nil ?_
  refine rk_seq ?_
  refine rk_draw (id := 1) (none) [0, 0, 2, 4, 8, 0, 32, 64, 128, 272, 0, 1536, 4095, 8191, 12287] [0, 0, 2, 6, 14, 0, 32, 96, 224, 510, 0, 2046, 4095, 8191, 16383] 18432 0 [(.p, 0), (.p, 1), (.p, 2), (.p, 3), (.r, 4), (.p, 5), (.p, 6), (.p, 7), (.r, 8), (.p, 9), (.p, 10), (.l, 11), (.p, 12), (.p, 13), (.l, 14)] (by kernel_rfl) (by kernel_rfl) (by kernel_rfl) (by kernel_rfl) (by kernel_rfl) ?_
  replace hcg := hcg.trans Chg.drew
  replace hB := hB.d
  replace hL := hL.d
  replace hp := hp.d
  replace f5 := f5.d
  refine wl_p (fun _ => o_move rfl) ?_
  refine wl_p (fun _ => o_move rfl) ?_
  refine wl_p (fun _ => o_nil rfl) ?_
  refine wl_p (fun _ => o_faddr (s := 85) (i := 4) (off := 4) Tryz.underlying85 rfl Tryz.sizeOf35 rfl rfl rfl) ?_
  refine wl_r (o_loadbg Tryz.isAgg35 rfl hB (by rfl)) ?_
  refine wl_p (fun _ => o_move rfl) ?_
  refine wl_p (fun _ => o_nil rfl) ?_
  refine wl_p (fun _ => o_faddr (s := 85) (i := 5) (off := 5) Tryz.underlying85 rfl Tryz.sizeOf80 rfl rfl rfl) ?_
  refine wl_r (o_loadbg Tryz.isAgg80 rfl hB (by rfl)) ?_
  refine wl_slBh Tryz.u8 (List.length b) rfl rfl hL.to_Rd rfl rfl (by omega) hL.cap ?_
  rintro f15
  refine wl_p (fun _ => o_move rfl) ?_
  refine wl_appB Tryz.u8 rfl hL rfl rfl hp rfl (by omega) (by simp; omega) ?_
  rintro A17 c17 w17 f17 g17 b17 i17
  simp only [drew_size] at i17
  have qf17 := f17.cap
  have s17 := g17.size
  simp only [drew_size] at s17
  replace f5 := f5.y g17 (by decide)
  replace hB := hB.y g17 (by decide)
  clear f15
  clear hp
  clear hL
  refine wl_p (fun _ => o_nil rfl) ?_
  refine wl_p (fun _ => o_faddr (s := 85) (i := 4) (off := 4) Tryz.underlying85 rfl Tryz.sizeOf35 rfl rfl rfl) ?_
  refine wl_stJlog rfl hB rfl hch ?_
  rintro w_1 f g_1 e_1
  have s_1 := g_1.size
  replace f5 := f5.k g_1.g (ap_some (by omega))
  replace f17 := f17.y g_1 (by decide)
  clear hB
  refine wl_nild ?_
  refine rk_seq ?_
  refine rk_region ?_
  refine wl_p (fun _ => o_move rfl) ?_
  refine wl_p (fun _ => o_nil rfl) ?_
  refine wl_p (fun _ => o_faddr (s := 85) (i := 5) (off := 5) Tryz.underlying85 rfl Tryz.sizeOf80 rfl rfl rfl) ?_
  refine wl_r (o_loadbg Tryz.isAgg80 rfl f (by rfl)) ?_
  refine wl_p (fun _ => o_move rfl) ?_
  refine wl_p (fun _ => o_len (t := 35) Tryz.underlying35 rfl) ?_
  refine wl_p (fun _ => o_add rfl rfl (by omega) (by omega)) ?_
  refine wl_p (fun _ => o_nil rfl) ?_
  refine wl_p (fun _ => o_faddr (s := 85) (i := 5) (off := 5) Tryz.underlying85 rfl Tryz.sizeOf80 rfl rfl rfl) ?_
  refine wl_stJtail rfl f rfl hch ?_
  rintro w_2 f_1 g_2 e_2
  have s_2 := g_2.size
  replace f17 := f17.y g_2 (by decide)
  replace f5 := f5.k g_2.g (ap_some (by omega))
  clear f
  refine wl_nil ?_
  refine rk_seq ?_
  refine rk_region ?_
  refine wl_p (fun _ => o_move rfl) ?_
  refine wl_r (o_ldBa Tryz.isAgg64 Tryz.sizeOf64 rfl f5 hu) ?_
  refine wl_p (fun _ => o_nil rfl) ?_
  refine wl_p (fun _ => o_faddr (s := 85) (i := 6) (off := 6) Tryz.underlying85 rfl Tryz.sizeOf64 rfl rfl rfl) ?_
  refine wl_stJch rfl f_1 rfl hch hu ?_
  rintro w_3 f g_3 e_3
  have s_3 := g_3.size
  replace f5 := f5.k g_3.g (ap_some (by omega))
  replace f17 := f17.y g_3 (by decide)
  clear f_1
  refine wl_nil ?_
  refine rk_region ?_
  refine wl_p (fun _ => o_move rfl) ?_
  refine wl_p (fun _ => o_nil rfl) ?_
  refine wl_p (fun _ => o_faddr (s := 85) (i := 7) (off := 38) Tryz.underlying85 rfl Tryz.sizeOf3 rfl rfl rfl) ?_
  refine wl_r (o_ldJk rfl f hu) ?_
  refine wl_p (fun _ => o_add rfl rfl (by omega) (by omega)) ?_
  refine wl_p (fun _ => o_nil rfl) ?_
  refine wl_p (fun _ => o_faddr (s := 85) (i := 7) (off := 38) Tryz.underlying85 rfl Tryz.sizeOf3 rfl rfl rfl) ?_
  refine wl_stJk rfl f rfl hu ?_
  rintro w_4 f_1 g_4 e_4
  have s_4 := g_4.size
  replace f17 := f17.y g_4 (by decide)
  replace f5 := f5.k g_4.g (ap_some (by omega))
  clear f
  refine wl_nil ?_
  refine end0 rfl ?_
  refine ⟨rfl, _, _, by rw [show (((b ++ p).length : Nat) : Int) = (b.length : Int) + p.length by rw [List.length_append]; omega]; exact f_1, f17.base (Nat.le_refl _) (by have := g_1.g.size; have := g_2.g.size; have := g_3.g.size; have := g_4.g.size; omega), ?_, w17, ⟨grownBy_trans (grown_of_below b5.drew _) g17.g, hty⟩, ⟨grownBy_trans (grownBy_trans (grownBy_trans g_1.g g_2.g) g_3.g) g_4.g, g_1.2⟩⟩
  exact i17.imp id (fun h k hk => by rw [h] at hk; injection hk with hk; have := b5.size; omega)
set_option maxRecDepth 100000 in
set_option maxHeartbeats 1000000 in
theorem K_jFormat {dl dh gd a : Nat} {S Sb S1 : List Sec} {C Ca Cb Cc C1 : List (Option Sec)} {z : Int} {u : D32} {ZZ ZA hb : By} (w : World) (hd : DkAt w dl dh gd S C) (hz : z = a) (ha : 1 ≤ a ∧ a ≤ 256) (hn : 2 + 2 * a ≤ S.length) (hu : sumB [wB8 0] = u.1) (hZZ : List.replicate 256 0 = ZZ) (hZA : List.replicate (a * 256) 0 = ZA) (hhb : headB 0 a = hb)
    (h1 : wrs C 1 (secsN 1 ZZ) = Ca) (h2 : wrs Ca 2 (secsN a ZA) = Cb) (h3 : cur S Cb = Sb) (h4 : List.replicate S.length none = C1) (h5 : wrs C1 0 (secsN 1 hb) = Cc) (h6 : cur Sb Cc = S1) :
    CallsR Tryz.prog 12 [.pointer (some ⟨gd, 0, none⟩), .int .i64 z] w fun v w' => ∃ g, v = .tuple #[.pointer (some ⟨g, 0, none⟩), .int .i64 0] ∧ Blk w' g 85 (jC (some ⟨g, 0, none⟩) (some ⟨gd, 0, none⟩) a 0 none 0 0 0 u.1 0 0) ∧ w.heap.size ≤ g ∧ DkAt w' dl dh gd S1 C1 ∧ Chg dl dh w w' := by
  subst hz
  have hS := hd.n2
  have hCl := hd.len
  have hdh := hd.hi
  have hZl : ZZ.length = 256 * 1 := by rw [← hZZ, List.length_replicate]
  have hAl : ZA.length = 256 * a := by rw [← hZA, List.length_replicate, Nat.mul_comm]
  have hSb : Sb.length = S.length := by rw [← h3, cur_len]
  have h4b : List.replicate Sb.length none = C1 := by rw [hSb, h4]
  have hf : 2 + 0 % 2 * a = 2 := by omega
  refine callsR Tryz.func12 rfl rfl (by kernel_rfl) rfl ?_
  have hcg : Chg dl dh w w := Chg.refl
  refine rk_seq ?_
  refine rk_region ?_
  refine wl_p (fun _ => o_assign rfl) ?_
  refine wl_p (fun _ => o_assign rfl) ?_
  refine wl_nil ?_
  refine rk_seq ?_
  refine rk_seq ?_
  refine rk_region ?_
  refine wl_p (fun _ => o_move rfl) ?_
  refine wl_call rfl (C_dSize _ hd) ?_
  rintro v7 w7 ⟨rfl, rfl⟩
  refine wl_p (fun _ => o_eq rfl rfl) ?_
  refine wl_nil ?_
  refine rk_if rfl (fun h8 => absurd h8 (by omega)) (fun h8 => ?_)
  refine rk_skip ?_
  refine rk_seq ?_
  refine rk_seq ?_
  refine rk_region ?_
  refine wl_p (fun _ => o_move rfl) ?_
  refine wl_call rfl (C_jSectorsY _ (by omega)) ?_
  rintro v10 w10 ⟨rfl, rfl⟩
  refine wl_p (fun _ => o_eq rfl rfl) ?_
  refine wl_p (fun _ => o_move rfl) ?_
  refine wl_know 12 false rfl (decide_eq_false (by omega)) ?_
  refine wl_p (fun _ => o_move rfl) ?_
  refine wl_call rfl (C_dSize _ hd) ?_
  rintro v14 w14 ⟨rfl, rfl⟩
  refine wl_p (fun _ => o_move rfl) ?_
  refine wl_call rfl (C_jSectorsY _ (by omega)) ?_
  rintro v16 w16 ⟨rfl, rfl⟩
  refine wl_p (fun _ => o_lt rfl rfl) ?_
  refine wl_p (fun _ => o_pick_f rfl rfl) ?_
  refine wl_nil ?_
  refine rk_if rfl (fun h18 => absurd h18 (by omega)) (fun h18 => ?_)
  refine rk_skip ?_
  refine rk_seq ?_
  refine rk_region ?_
  refine wl_p (fun _ => o_move rfl) ?_
  refine wl_mkBz (256) rfl rfl (by omega) (by rfl) (by omega) hZZ ?_
  rintro A20 w20 f20 b20
  have qf20 := f20.cap
  have s20 := b20.size
  replace hcg := hcg.thenB b20
  replace hd := hd.u b20
  refine wl_call rfl (C_jWriteH (M := 1) (n := 1) _ hd f20 hZl h1 rfl (by omega) (by omega) (.inr (by omega)) (by omega) (by omega) (by omega)) ?_
  rintro _ w21 ⟨rfl, hd21, b21⟩
  have sb21 := b21.size
  replace hcg := hcg.trans (b21.wide (by omega) (by omega))
  replace f20 := f20.c b21 (by omega)
  clear hd
  refine wl_nil ?_
  refine rk_seq ?_
  refine rk_region ?_
  refine wl_p (fun _ => o_move rfl) ?_
  refine wl_p (fun _ => o_move rfl) ?_
  refine wl_call rfl (C_jFirst _ (by omega) rfl hf (by omega) (by omega)) ?_
  rintro v24 w24 ⟨rfl, rfl⟩
  refine wl_p (fun _ => o_move rfl) ?_
  refine wl_call rfl (C_jStart _ (by omega)) ?_
  rintro v26 w26 ⟨rfl, b26⟩
  have s26 := b26.size
  replace hcg := hcg.thenB b26
  replace f20 := f20.u b26
  replace hd21 := hd21.u b26
  refine wl_mkBz (a * 256) rfl rfl (by omega) (by rfl) (by omega) hZA ?_
  rintro A27 w27 f27 b27
  have qf27 := f27.cap
  have s27 := b27.size
  replace hcg := hcg.thenB b27
  replace hd21 := hd21.u b27
  replace f20 := f20.u b27
  refine wl_call rfl (C_jWriteH _ hd21 f27 hAl (by rfl) rfl (by omega) (by omega) (by omega) (by omega) (by omega) (by omega)) ?_
  rintro v28 w28 ⟨rfl, ⟨f28, g28⟩⟩
  have s28 := g28.size
  replace hcg := hcg.trans (g28.wide (by omega) (by omega))
  replace f20 := f20.c g28 (by omega)
  replace f27 := f27.c g28 (by omega)
  clear hd21
  refine wl_nil ?_
  refine rk_seq ?_
  refine rk_region ?_
  refine wl_p (fun _ => o_move rfl) ?_
  refine wl_call rfl (C_dFlush _ f28 (by rfl) h4) ?_
  rintro v30 w30 ⟨rfl, ⟨f30, g30⟩⟩
  have s30 := g30.size
  replace hcg := hcg.trans (g30.wide (by omega) (by omega))
  replace f27 := f27.c g30 (by omega)
  replace f20 := f20.c g30 (by omega)
  clear f28
  refine wl_nil ?_
  refine rk_seq ?_
  refine rk_region ?_
  refine wl_p (fun _ => o_move rfl) ?_
  refine wl_p (fun _ => o_move rfl) ?_
  refine wl_call rfl (C_headBytes _ (by omega) rfl hhb (by omega) (by omega)) ?_
  rintro v33 w33 ⟨A33, ⟨c33, ⟨rfl, ⟨f33, ⟨e33, b33⟩⟩⟩⟩⟩
  have qf33 := f33.cap
  have s33 := b33.size
  replace hcg := hcg.thenB b33
  replace f20 := f20.u b33
  replace f27 := f27.u b33
  replace f30 := f30.u b33
  rw [h2, h3] at f30
  have hHl : hb.length = 256 * 1 := by rw [← hhb, headB_len]
  refine wl_call rfl (C_jWriteH (M := 1) (n := 0) _ f30 f33 hHl h5 rfl (by omega) (by omega) (.inr (by have := hcg.size; omega)) (by omega) (by omega) (by omega)) ?_
  rintro _ w34 ⟨rfl, hd34, b34⟩
  have sb34 := b34.size
  replace hcg := hcg.trans (b34.wide (by omega) (by omega))
  replace f27 := f27.c b34 (by omega)
  replace f20 := f20.c b34 (by omega)
  replace f33 := f33.c b34 (by omega)
  clear f30
  have sz0 := hcg.size
  refine wl_nil ?_
  refine rk_seq ?_
  refine rk_region ?_
  refine wl_p (fun _ => o_move rfl) ?_
  refine wl_call rfl (C_dFlush _ hd34 h6 h4b) ?_
  rintro v36 w36 ⟨rfl, ⟨f36, g36⟩⟩
  have s36 := g36.size
  replace hcg := hcg.trans (g36.wide (by omega) (by omega))
  replace f33 := f33.c g36 (by omega)
  replace f20 := f20.c g36 (by omega)
  replace f27 := f27.c g36 (by omega)
  clear hd34
  refine wl_nil ?_
  refine rk_seq ?_
  refine rk_region ?_
  refine wl_p (fun _ => o_move rfl) ?_
  refine wl_p (fun _ => o_move rfl) ?_
  refine wl_call rfl (C_jMade _ (by omega) (by omega) hu) ?_
  rintro v39 w39 ⟨g39, ⟨rfl, ⟨f39, ⟨i39, b39⟩⟩⟩⟩
  have s39 := b39.size
  replace hcg := hcg.thenB b39
  replace f27 := f27.u b39
  replace f20 := f20.u b39
  replace f33 := f33.u b39
  replace f36 := f36.u b39
  refine wl_p (fun _ => o_assign rfl) ?_
  refine wl_p (fun _ => o_assign rfl) ?_
  refine wl_nil ?_
  refine ret2 rfl rfl rfl ?_
  exact ⟨_, rfl, f39, by omega, f36, hcg⟩
end Go.Proofs.YtnnhenafhalobaaGreat
/-
  The document's disk in memory; its methods.
-/
namespace Go.Proofs.YtnnhenafhalobaaGreat
set_option maxRecDepth 100000
open Go.RowKit
/-! Rows of slices' headers. -/
abbrev Hd := Option Addr × Nat × Nat
section
variable {w w' : World} {lo hi lo' hi' cp b : Nat} {A : Option Addr} {S : List Hd} {e' : TypeId} {row : Option Nat}
end
section
variable {fn : Func} {F : Ending → World → Prop} {N : Nat} {ks : List K} {ops : Array Oper} {tg : Tags} {l : List Oper} {fr : Fr} {w : World} {ty t t' : TypeId} {pos : String} {aft : Array Edge} {gd : Option (Nat × Bool)} {k1 k2 : IntKind} {d n j c lo hi : Nat} {x y : Operand} {A : Option Addr} {S : List Hd} {s : Hd}
end
section
variable {P : Program} {w w' : World} {lo hi e g k n c : Nat} {xs cur vs : List Value}
/-- Cells in the midst of a row are written. -/
theorem RowH.spl_ (h : RowH w lo hi e 1 (some ⟨g, 0, none⟩) n c xs) (hB : Blk w g e cur) (hB' : Blk w' g e (spl cur k vs)) (hk : k + vs.length ≤ n) (h0 : 0 < n) : RowH w' lo hi e 1 (some ⟨g, 0, none⟩) n c (spl xs k vs) := by
  have hrd := h.rd.1
  have ho := h.o
  obtain ⟨g', cur', e1, g1, g2, hB2, g3, g4, g5⟩ := h.blk_ h0
  injection e1 with e1
  injection e1 with e1
  subst e1
  have hcc : cur' = cur := by
    unfold Blk at hB hB2
    rw [hB] at hB2
    injection hB2 with hB2
    injection hB2 with hB2
    exact (List.toArray_inj hB2).symm
  subst hcc
  rw [Nat.mul_one] at g4 g5 hrd
  refine ⟨⟨?_, .inr ⟨g, c, (spl cur' k vs).toArray, rfl, g1, hB', g3, ?_, ?_, ?_⟩⟩, h.hi⟩
  · rw [spl_length (by omega), hrd, Nat.mul_one]
  · rcases ho.2 with ⟨hv', h0'⟩ | ⟨_, cap, _, hv', _, _, _, h4, _⟩
    · omega
    · injection hv' with _ _ e3; rw [e3]; exact h4
  · rw [List.size_toArray, spl_length (by omega), g4, Nat.mul_one]
  · show (spl cur' k vs).take (n * 1) = _
    rw [Nat.mul_one]
    apply List.ext_getElem?
    intro q
    rw [List.getElem?_take, getElem_spl (by omega), getElem_spl (by rw [hrd]; omega), ← g5, List.getElem?_take]
    by_cases hq : q < n
    · rw [if_pos hq, if_pos hq]
    · rw [if_neg hq, if_neg hq, if_neg (by omega)]
end
section
variable {fn : Func} {F : Ending → World → Prop} {N : Nat} {ks : List K} {ops : Array Oper} {tg : Tags} {l : List Oper} {fr : Fr} {w : World} {ty t t2 : TypeId} {pos : String} {aft : Array Edge} {gd : Option (Nat × Bool)} {d n c c' k j q lo hi : Nat} {x y : Operand} {A B : Option Addr} {s m : By}
--@ rule copy l wl_cpH
/-- copy, to the midst of bytes of the call's own. -/
theorem wl_cpH (T : U8 Tryz.prog t) (hx : fr.ev x = some (.slice (cutA A c 1 k) n c')) (hown : OwnH w lo hi A c s) (hy : fr.ev y = some (.slice B j q)) (hj : j = m.length) (hr : Rd w B m) (hn : n = s.length - k) (hm : k + m.length ≤ s.length) (h0 : 0 < m.length)
    (hk : ∀ w', OwnH w' lo hi A c (s.take k ++ m ++ s.drop (k + m.length)) → Grew w w' 5 (blk A) → Below lo w w' → w'.heap.size = w.heap.size → WL Tryz.prog fn F N ks ops tg.tail l ((d, .int .i64 (m.length : Nat)) :: fr) w')
    (ht : tg.loud = true := by rfl) (hg : onG ops fr gd = true := by rfl) (hd : Nat.blt d N = true := by rfl) (hq : tg.calm = false ∨ blk A = tg.row := by exact .inl rfl) :
    WL Tryz.prog fn F N ks ops tg (⟨some d, .call { callee := .builtin .copy, args := #[x, y], argTypes := #[t, t2] }, ty, pos, aft, gd⟩ :: l) fr w := by
  have hT := RowH.ty hown
  have hown0 : RowH w lo hi 5 1 A s.length c (B8 s) := hown
  obtain ⟨g, cur, rfl, g1, g2, hB, g3, g4, g5⟩ := hown0.blk_ (by omega)
  rw [Nat.mul_one] at g4 g5
  have hcut : cutA (some (⟨g, 0, none⟩ : Addr)) c 1 k = some ⟨g, k, none⟩ := by
    unfold cutA; rw [if_neg (by omega)]; simp [add_plain]
  rw [hcut] at hx
  have htk : m.take n = m := List.take_of_length_le (by omega)
  refine wl_copy T hx hy hj hr hB (by omega) (fun w' h1 h2 h3 => ?_) ht hg hd (hq.imp id (fun e => e))
  rw [htk] at h1
  have hmin : min j n = m.length := by omega
  rw [hmin]
  have h4 := hown0.spl_ hB h1 (by rw [B8_length]; omega) (by omega)
  have e1 : spl (B8 s) k (B8 m) = B8 (s.take k ++ m ++ s.drop (k + m.length)) := by
    unfold spl
    rw [B8_length]
    simp [B8, List.map_append, List.map_take, List.map_drop]
  have e2 : (s.take k ++ m ++ s.drop (k + m.length)).length = s.length := by
    rw [List.length_append, List.length_append, List.length_take, List.length_drop]; omega
  rw [e1] at h4
  have hlt := RowH.lt hown0 g rfl
  have hgr : Grew w w' 5 (blk (some (⟨g, 0, none⟩ : Addr))) := ⟨h2, hT⟩
  refine hk w' ?_ hgr (hgr.below (by omega) (fun k' hk' => by have hk2 : g = k' := by simpa [blk] using hk'
                                                              omega)) h3
  show RowH w' lo hi 5 1 _ (s.take k ++ m ++ s.drop (k + m.length)).length c _
  rw [e2]
  exact h4
end
end Go.Proofs.YtnnhenafhalobaaGreat
/-
  Walks of package journal: a record appended.
-/
namespace Go.Proofs.YtnnhenafhalobaaGreat
set_option maxRecDepth 100000
--@ hide C_jWriteH
--@ hide C_jWrite
--@ hide K_jPut
--@ hide wl_cpH
open Go.RowKit
section
variable {fn : Func} {F : Ending → World → Prop} {N : Nat} {ks : List K} {ops : Array Oper} {tg : Tags} {l : List Oper} {fr : Fr} {w : World} {ty t : TypeId} {pos : String} {aft : Array Edge} {gd : Option (Nat × Bool)} {d lo2 hi2 : Nat} {x y : Operand} {A : Option Addr}
--@ rule! slice l wl_slOwnJ
/-- s[lo:], to be written. -/
theorem wl_slOwnJ (T : U8 Tryz.prog t) {p : List UInt8} {len cap : Nat} {kl : IntKind} {L : Int} (lo : Nat) (hx : fr.ev x = some (.slice A len cap)) (hy : fr.ev y = some (.int kl L)) (hown : OwnH w lo2 hi2 A cap p) (hlen : len = p.length) (hl : L = (lo : Int)) (h1 : lo ≤ p.length)
    (hk : WL Tryz.prog fn F N ks ops tg.tail l ((d, .slice (cutA A cap 1 lo) (p.length - lo) (cap - lo)) :: fr) w) (hg : onG ops fr gd = true := by rfl) (hd : Nat.blt d N = true := by rfl) :
    WL Tryz.prog fn F N ks ops tg (⟨some d, .slice t x (some y) none none, ty, pos, aft, gd⟩ :: l) fr w := by
  subst hlen
  exact wl_p (fun _ => o_slice_lo T.ht Tryz.sizeOf5 hx hy hl (by have := hown.cap; omega)) hk hg hd
end
theorem C_jSector {x : Int} {t : Nat} (w : World) (hx : x = t) (ht : t ≤ 1000000) : CallsR Tryz.prog 51 [.int .i64 x] w fun v w' => v = .int .i64 ((t / 256 : Nat) : Int) ∧ Below w.heap.size w w' := by
  subst hx
  refine callsR Tryz.func51 rfl rfl (by kernel_rfl) rfl ?_
  have hw := Below.refl w.heap.size w
  refine rk_seq ?_
  refine rk_region ?_
  refine wl_p (fun _ => o_assign rfl) ?_
  refine wl_nil ?_
  refine rk_seq ?_
  refine rk_region ?_
  refine wl_p (fun _ => o_move rfl) ?_
  refine wl_p (fun _ => o_quo rfl rfl (by omega) (by omega) (by omega)) ?_
  refine wl_p (fun _ => o_assign rfl) ?_
  refine wl_nil ?_
  refine ret1 rfl rfl ?_
  exact ⟨congrArg (Value.int .i64) (by omega), hw⟩
set_option maxRecDepth 100000 in
set_option maxHeartbeats 1000000 in
theorem K_jAppend {dl dh gd g c lo hi e a k s n m low tt hgh n0 M r : Nat} {S : List Sec} {C : List (Option Sec)} {L A : Option Addr} {ch b p bs nx TA TB : By} {kd : UInt8} {x : Int} (w : World) (hd : DkAt w dl dh gd S C) (hB : Blk w g 85 (jC (some ⟨g, 0, none⟩) (some ⟨gd, 0, none⟩) a e L b.length c b.length ch k s)) (hL : OwnH w lo hi L c b) (hp : Rd w A p) (hkd : x = (kd.toNat : Int)) (hn : n = p.length) (hl : p.length ≤ 9000) (hch : ch.length = 32) (hO : OkR (kd, p)) (hbs : bytesR ch (kd, p) = bs) (hnx : nextB ch (kd, p) = nx) (ha : 1 ≤ a ∧ a ≤ 256) (he : e < 18446744073709551616) (hfit : b.length + bs.length ≤ a * 256) (hsz : 2 + 2 * a ≤ S.length) (hgd : g < dl ∨ dh ≤ g) (hld : hi ≤ dl ∨ dh ≤ lo) (hlo : lo ≤ hi ∧ hi ≤ w.heap.size) (hkb : k ≤ 1000000) (hlow : b.length / 256 = low) (htt : (b.length : Int) + bs.length - 1 = tt) (hhgh : tt / 256 = hgh) (hn0 : 2 + e % 2 * a = n0) (hM : hgh - low + 1 = M) (hTA : areaB (cur S C) (n0 + low) M = TA) (hr : b.length - 256 * low = r) (hTB : overJ TA r bs = TB) :
    CallsR Tryz.prog 15 [.pointer (some ⟨g, 0, none⟩), .agg #[.int .u8 x, .slice A n m]] w fun v w' => v = .int .i64 0 ∧ ∃ L' c', Blk w' g 85 (jC (some ⟨g, 0, none⟩) (some ⟨gd, 0, none⟩) a e L' (b ++ bs).length c' (b ++ bs).length nx ((k : Int) + 1) s) ∧ OwnH w' lo w'.heap.size L' c' (b ++ bs) ∧ (blk L' = blk L ∨ ∀ k, blk L' = some k → w.heap.size ≤ k) ∧ ∃ w1 w2, DkAt w1 dl dh gd S (wrs C (n0 + low) (secsN M TB)) ∧ Chg dl dh w w1 ∧ Grew w1 w2 5 (blk L) ∧ Grew w2 w' 85 (some g) := by
  subst hn
  have hgw := hB.lt
  refine callsR Tryz.func15 rfl rfl (by kernel_rfl) rfl ?_
  have hcg : Chg dl dh w w := Chg.refl
  have nx32 : nx.length = 32 := by rw [← hnx]; exact nextB_len _ _
  have hb9 : 9 ≤ bs.length := by
    rw [← hbs, bytesR_len, bodyB, List.length_append, List.length_singleton]; omega
  have hga : hgh < a := by omega
  have hlh : low ≤ hgh := by omega
  have hn0b : n0 ≤ 2 + a := by
    rw [← hn0]
    have := Nat.mul_le_mul_right a (show e % 2 ≤ 1 by omega)
    omega
  have hMl : n0 + low + M ≤ S.length := by omega
  have hTl : TA.length = 256 * M := by rw [← hTA]; exact areaB_len (by rw [cur_len]; omega)
  have hrb : r + bs.length ≤ TA.length := by omega
  have hTBl : TB.length = 256 * M := by rw [← hTB, overJ_len hrb, hTl]
  refine rk_seq ?_
  refine rk_region ?_
  refine wl_boxg [_, _] rfl (by rfl) ?_
  rintro g3 w3 f3 b3 i3 i3_1
  have s3 := b3.size
  replace hcg := hcg.thenB b3
  replace hp := hp.u b3
  replace hL := hL.u b3
  replace hB := hB.u b3
  replace hd := hd.u b3
  refine wl_p (fun _ => o_assign rfl) ?_
  refine wl_nil ?_
  refine rk_seq ?_
  refine rk_seq ?_
  refine rk_region ?_
  refine wl_p (fun _ => o_move rfl) ?_
  refine wl_call rfl (C_jValid _ hB) ?_
  rintro v15 w15 ⟨rfl, rfl⟩
  refine wl_p (fun _ => o_not rfl) ?_
  refine wl_nil ?_
  refine rk_false rfl ?_
  refine rk_skip ?_
  refine rk_seq ?_
  refine rk_drawo (id := 3) (none) [0, 1, 2, 4, 0, 24, 32, 64, 64, 64, 0, 1279, 3583, 8191] [0, 1, 3, 7, 0, 31, 63, 127, 127, 127, 0, 1279, 3583, 8191] 5152 1024 [0, 1, 2, 3, 4] [(.p, 0), (.p, 1), (.p, 2), (.s, 3), (.s, 4), (.f 31 5152 1024, 9)] (by kernel_rfl) (by kernel_rfl) (by kernel_rfl) (by kernel_rfl) (by kernel_rfl) ?_
  dsimp only [inOrder, nthOp]
  replace hcg := hcg.trans Chg.drew
  replace hd := hd.d
  replace hB := hB.d
  replace hL := hL.d
  replace hp := hp.d
  replace f3 := f3.d
  refine wl_p (fun _ => o_move rfl) ?_
  refine wl_p (fun _ => o_nil rfl) ?_
  refine wl_p (fun _ => o_faddr (s := 85) (i := 6) (off := 6) Tryz.underlying85 rfl Tryz.sizeOf64 rfl rfl rfl) ?_
  refine wl_s (fun _ hk => (o_ldJch rfl (hB.u (below_of_grown_none hk)) hch)) ?_
  refine wl_s (fun _ hk => (o_loadag Tryz.isAgg37 Tryz.sizeOf37 rfl (f3.u (below_of_grown_none hk)) (by rfl))) ?_
  have hdhi := hd.hi
  simp only [drew_size] at hdhi
  refine wl_conc [⟨5, [(.p, 6), (.p, 7), (.p, 8), (.p, 9)], [26, 25, 24, 17, 23], [], fun vs w' lo hi => ∃ (A24 : Option Addr) (c24 : Nat) (u17 u23 : Value), vs = [.int .i64 0, .agg (B8 nx).toArray, .slice A24 bs.length c24, u17, u23] ∧ OwnH w' lo hi A24 c24 bs⟩, ⟨10, [], [6], [], fun vs w' lo hi => ∃ (g6 : Nat), vs = [.pointer (some ⟨g6, 0, none⟩)] ∧ Blk w' g6 64 (B8 nul32) ∧ lo ≤ g6 ∧ g6 < hi⟩] [0, 1] [0, 1, 2, 4, 0, 24, 32, 64, 64, 64, 0, 1279, 3583, 8191] [0, 1, 3, 7, 0, 31, 63, 127, 127, 127, 0, 1279, 3583, 8191] [11, 12, 13] [(.p, 11), (.l, 12), (.p, 13)] (by kernel_rfl) (by kernel_rfl) (by kernel_rfl) (by kernel_rfl) ⟨fun _ _ _ _ _ h hb => by obtain ⟨A24, c24, u17, u23, e0, g0⟩ := h; exact ⟨A24, c24, u17, u23, e0, g0.u hb⟩, fun _ _ _ _ _ h hb => by obtain ⟨g6, e0, g0, g1, g2⟩ := h; exact ⟨g6, e0, g0.u hb, g1, g2⟩, trivial⟩ ⟨?_, ?_, trivial⟩ ?_
  · intro wI hbI fo T T2 n2
    intro hk
    dsimp only [Item.idx, inOrder, nthOp, List.map, List.zip_cons_cons, List.zip_nil_right, List.cons_append, List.nil_append]
    have shbI := hbI.size
    simp only [drew_size] at shbI
    replace hcg := hcg.thenB hbI
    replace f3 := f3.u hbI
    replace hp := hp.u hbI
    replace hL := hL.u hbI
    replace hB := hB.u hbI
    replace hd := hd.u hbI
    have hw1 := Below.refl wI.heap.size wI
    refine wl_call rfl (C_RecBytesOk _ hkd hp (by omega) hbs hnx rfl (by omega) hch) ?_
    rintro v23 w23 ⟨A23, ⟨c23, ⟨rfl, ⟨f23, b23⟩⟩⟩⟩
    have qf23 := f23.cap
    have s23 := b23.size
    replace hw1 := hw1.trans (b23.mono hw1.size)
    replace hcg := hcg.thenB b23
    replace hd := hd.u b23
    replace hB := hB.u b23
    replace hL := hL.u b23
    replace hp := hp.u b23
    replace f3 := f3.u b23
    refine wl_p (fun _ => o_move rfl) ?_
    refine wl_p (fun _ => o_ext30 rfl) ?_
    refine wl_p (fun _ => o_ext31 rfl) ?_
    refine wl_p (fun _ => o_ext32 rfl) ?_
    exact hk [_, _, _, _, _] _ ⟨_, _, _, _, rfl, f23⟩ hw1
  · intro wI hbI fo T T2 n2
    intro hk
    dsimp only [Item.idx, inOrder, nthOp, List.map, List.zip_cons_cons, List.zip_nil_right, List.cons_append, List.nil_append]
    have shbI := hbI.size
    simp only [drew_size] at shbI
    replace hcg := hcg.thenB hbI
    replace f3 := f3.u hbI
    replace hp := hp.u hbI
    replace hL := hL.u hbI
    replace hB := hB.u hbI
    replace hd := hd.u hbI
    have hw1 := Below.refl wI.heap.size wI
    refine wl_allocB Tryz.underlying64 Tryz.zeroValue64 (by rfl) ?_
    rintro g6 w6 f6 b6 i6 i6_1
    have s6 := b6.size
    replace hw1 := hw1.trans (b6.mono hw1.size)
    replace hcg := hcg.thenB b6
    replace hd := hd.u b6
    replace hB := hB.u b6
    replace hL := hL.u b6
    replace hp := hp.u b6
    replace f3 := f3.u b6
    exact hk [_] _ ⟨_, rfl, f6, by omega, by omega⟩ hw1
  intro wE hbE
  rintro _ lo0 hi0 ⟨A24, c24, u17, u23, rfl, f23⟩ ql0 qm0 qh0 -
  rintro _ lo1 hi1 ⟨g6, rfl, f6, f6_1, f6_2⟩ ql1 qm1 qh1 ⟨qa1_0, -⟩
  try dsimp only at ql0 qm0 qh0  ql1 qm1 qh1 qa1_0
  try simp only [drew_size] at ql0 qm0 qh0  ql1 qm1 qh1 qa1_0
  dsimp only [given, Item.idx, inOrder, nthOp, List.map, List.zip_cons_cons, List.zip_nil_right]
  have shbE := hbE.size
  simp only [drew_size] at shbE
  replace hcg := hcg.thenB hbE
  replace f3 := f3.u hbE
  replace hp := hp.u hbE
  replace hL := hL.u hbE
  replace hB := hB.u hbE
  replace hd := hd.u hbE
  have hcE : Chg lo1 hi1 wE wE := Chg.refl
  refine wl_p (fun _ => o_assign rfl) ?_
  refine wl_stBa Tryz.sizeOf64 rfl f6 rfl nx32 (by rfl) ?_
  rintro w_1 f g_1 e_1
  have s_1 := g_1.size
  replace hcg := hcg.andNew g_1.g (fun _ e => by injection e with e; have := hcg.size; omega)
  replace hcE := hcE.trans (Chg.of_g1 g_1.g (by omega) (by omega))
  replace hd := hd.k g_1.g (ap_some (by omega))
  replace hB := hB.k g_1.g (ap_some (by omega))
  replace hL := hL.k g_1.g (ap_some (by omega))
  replace f3 := f3.k g_1.g (ap_some (by omega))
  replace f23 := f23.k g_1.g (ap_some (by omega))
  clear hp
  clear f6
  refine wl_p (fun _ => o_assign rfl) ?_
  refine wl_nild ?_
  refine rk_seq ?_
  refine rk_seq ?_
  refine rk_region ?_
  refine wl_p (fun _ => o_move rfl) ?_
  refine wl_p (fun _ => o_ne rfl rfl) ?_
  refine wl_nil ?_
  refine rk_false rfl ?_
  refine rk_skip ?_
  refine rk_seq ?_
  refine rk_seq ?_
  refine rk_region ?_
  refine wl_p (fun _ => o_move rfl) ?_
  refine wl_p (fun _ => o_len (t := 35) Tryz.underlying35 rfl) ?_
  refine wl_p (fun _ => o_move rfl) ?_
  refine wl_call rfl (C_jLeft _ hB (by rfl) (by omega) (by omega)) ?_
  rintro v33 w33 ⟨rfl, b33⟩
  have s33 := b33.size
  replace hcg := hcg.thenB b33
  replace hcE := hcE.thenB b33
  replace f23 := f23.u b33
  replace f3 := f3.u b33
  replace hL := hL.u b33
  replace hB := hB.u b33
  replace hd := hd.u b33
  replace f := f.u b33
  refine wl_p (fun _ => o_gt rfl rfl) ?_
  refine wl_nil ?_
  refine rk_if rfl (fun h34 => absurd h34 (by omega)) (fun h34 => ?_)
  refine rk_skip ?_
  refine rk_seq ?_
  refine rk_draw (id := 8) (none) [0, 1, 2, 4, 0, 16, 32, 64, 0, 256, 640, 15, 4095] [0, 1, 3, 7, 0, 16, 48, 112, 0, 256, 1008, 15, 4095] 0 0 [(.p, 0), (.p, 1), (.p, 2), (.r, 3), (.p, 4), (.p, 5), (.p, 6), (.r, 7), (.p, 8), (.p, 9), (.p, 10), (.p, 11), (.p, 12)] (by kernel_rfl) (by kernel_rfl) (by kernel_rfl) (by kernel_rfl) (by kernel_rfl) ?_
  replace hcg := hcg.trans Chg.drew
  replace hcE := hcE.trans Chg.drew
  replace f := f.d
  replace hd := hd.d
  replace hB := hB.d
  replace hL := hL.d
  replace f3 := f3.d
  replace f23 := f23.d
  refine wl_p (fun _ => o_move rfl) ?_
  refine wl_p (fun _ => o_nil rfl) ?_
  refine wl_p (fun _ => o_faddr (s := 85) (i := 5) (off := 5) Tryz.underlying85 rfl Tryz.sizeOf80 rfl rfl rfl) ?_
  refine wl_r (o_loadbg Tryz.isAgg80 rfl hB (by rfl)) ?_
  refine wl_p (fun _ => o_move rfl) ?_
  refine wl_p (fun _ => o_nil rfl) ?_
  refine wl_p (fun _ => o_faddr (s := 85) (i := 5) (off := 5) Tryz.underlying85 rfl Tryz.sizeOf80 rfl rfl rfl) ?_
  refine wl_r (o_loadbg Tryz.isAgg80 rfl hB (by rfl)) ?_
  refine wl_p (fun _ => o_move rfl) ?_
  refine wl_p (fun _ => o_len (t := 35) Tryz.underlying35 rfl) ?_
  refine wl_p (fun _ => o_add rfl rfl (by omega) (by omega)) ?_
  refine wl_p (fun _ => o_assign rfl) ?_
  refine wl_p (fun _ => o_assign rfl) ?_
  refine wl_nild ?_
  refine rk_seq ?_
  refine rk_region ?_
  refine wl_p (fun _ => o_move rfl) ?_
  refine wl_call rfl (C_jSector _ rfl (by omega)) ?_
  rintro v47 w47 ⟨rfl, b47⟩
  simp only [drew_size] at b47
  have s47 := b47.size
  simp only [drew_size] at s47
  replace hcg := hcg.thenB b47
  replace hcE := hcE.thenB b47
  replace f23 := f23.u b47
  replace f3 := f3.u b47
  replace hL := hL.u b47
  replace hB := hB.u b47
  replace hd := hd.u b47
  replace f := f.u b47
  refine wl_p (fun _ => o_move rfl) ?_
  refine wl_p (fun _ => o_sub rfl rfl (by omega) (by omega)) ?_
  refine wl_call rfl (C_jSector _ (by omega) (by omega)) ?_
  rintro v50 w50 ⟨rfl, b50⟩
  have s50 := b50.size
  replace hcg := hcg.thenB b50
  replace hcE := hcE.thenB b50
  replace f := f.u b50
  replace hd := hd.u b50
  replace hB := hB.u b50
  replace hL := hL.u b50
  replace f3 := f3.u b50
  replace f23 := f23.u b50
  refine wl_p (fun _ => o_assign rfl) ?_
  refine wl_p (fun _ => o_assign rfl) ?_
  refine wl_nil ?_
  refine rk_seq ?_
  refine rk_drawo (id := 10) (none) [0, 1, 2, 4, 0, 16, 32, 64, 136, 0, 768, 2047] [0, 1, 3, 7, 0, 16, 48, 112, 255, 0, 1023, 2047] 256 0 [0, 1, 2, 3, 4, 5, 6, 7, 9, 8, 10, 11] [(.p, 0), (.p, 1), (.p, 2), (.r, 3), (.p, 4), (.p, 5), (.p, 6), (.r, 7), (.p, 9), (.l, 8), (.p, 10), (.p, 11)] (by kernel_rfl) (by kernel_rfl) (by kernel_rfl) (by kernel_rfl) (by kernel_rfl) ?_
  dsimp only [inOrder, nthOp]
  replace hcg := hcg.trans Chg.drew
  replace hcE := hcE.trans Chg.drew
  replace f23 := f23.d
  replace f3 := f3.d
  replace hL := hL.d
  replace hB := hB.d
  replace hd := hd.d
  replace f := f.d
  refine wl_p (fun _ => o_move rfl) ?_
  refine wl_p (fun _ => o_nil rfl) ?_
  refine wl_p (fun _ => o_faddr (s := 85) (i := 3) (off := 3) Tryz.underlying85 rfl Tryz.sizeOf52 rfl rfl rfl) ?_
  refine wl_r (o_loadbg Tryz.isAgg52 rfl hB (by rfl)) ?_
  refine wl_p (fun _ => o_move rfl) ?_
  refine wl_p (fun _ => o_nil rfl) ?_
  refine wl_p (fun _ => o_faddr (s := 85) (i := 2) (off := 2) Tryz.underlying85 rfl Tryz.sizeOf3 rfl rfl rfl) ?_
  refine wl_r (o_loadbg Tryz.isAgg3 rfl hB (by rfl)) ?_
  refine wl_p (fun _ => o_move rfl) ?_
  refine wl_call rfl (C_jFirst _ rfl rfl hn0 (by omega) (by omega)) ?_
  rintro v59 w59 ⟨rfl, rfl⟩
  refine wl_p (fun _ => o_add rfl rfl (by omega) (by omega)) ?_
  refine wl_p (fun _ => o_assign rfl) ?_
  refine wl_nild ?_
  refine rk_seq ?_
  refine rk_region ?_
  refine wl_p (fun _ => o_move rfl) ?_
  refine wl_p (fun _ => o_nil rfl) ?_
  refine wl_p (fun _ => o_faddr (s := 85) (i := 1) (off := 1) Tryz.underlying85 rfl Tryz.sizeOf26 rfl rfl rfl) ?_
  refine wl_r (o_loadbg Tryz.isAgg26 rfl hB (by rfl)) ?_
  refine wl_p (fun _ => o_move rfl) ?_
  refine wl_p (fun _ => o_move rfl) ?_
  refine wl_p (fun _ => o_move rfl) ?_
  refine wl_p (fun _ => o_sub rfl rfl (by omega) (by omega)) ?_
  refine wl_p (fun _ => o_add rfl rfl (by omega) (by omega)) ?_
  rw [hlow, htt]
  have sz50 := hcg.size
  have szE := hcE.size
  try simp only [drew_size] at sz50 szE
  clear hcE
  rw [show ((tt / 256 : Nat) : Int) - low + 1 = (M : Int) by omega]
  refine wl_call rfl (C_jRead _ hd (by omega) rfl hTA (by omega)) ?_
  rintro v71 w71 ⟨A71, ⟨c71, ⟨rfl, ⟨f71, b71⟩⟩⟩⟩
  simp only [drew_size] at f71
  simp only [drew_size] at b71
  have qf71 := f71.cap
  have s71 := b71.size
  simp only [drew_size] at s71
  replace hcg := hcg.thenB b71
  replace f := f.u b71
  replace hd := hd.u b71
  replace hB := hB.u b71
  replace hL := hL.u b71
  replace f3 := f3.u b71
  replace f23 := f23.u b71
  refine wl_p (fun _ => o_assign rfl) ?_
  refine wl_nil ?_
  refine rk_seq ?_
  refine rk_region ?_
  refine wl_p (fun _ => o_move rfl) ?_
  refine wl_p (fun _ => o_move rfl) ?_
  refine wl_p (fun _ => o_move rfl) ?_
  refine wl_call rfl (C_jStart _ (by omega)) ?_
  rintro v75 w75 ⟨rfl, b75⟩
  have s75 := b75.size
  replace hcg := hcg.thenB b75
  replace f23 := f23.u b75
  replace f3 := f3.u b75
  replace hL := hL.u b75
  replace hB := hB.u b75
  replace hd := hd.u b75
  replace f := f.u b75
  replace f71 := f71.u b75
  refine wl_p (fun _ => o_sub rfl rfl (by omega) (by omega)) ?_
  refine wl_p (fun _ => o_move rfl) ?_
  refine wl_p (fun _ => o_len (t := 35) Tryz.underlying35 rfl) ?_
  refine wl_p (fun _ => o_min rfl rfl) ?_
  rw [show min ((b.length : Int) - (low : Int) * 256) (TA.length : Int) = (r : Int) by omega]
  refine wl_slOwnJ Tryz.u8 (r) rfl rfl f71 rfl rfl (by omega) ?_
  refine wl_p (fun _ => o_move rfl) ?_
  have hrng : ∀ j, blk A71 = some j → w.heap.size ≤ j := fun j e => by have := (RowH.lt f71 j e).1; omega
  refine wl_cpH (k := r) Tryz.u8 rfl f71 rfl rfl f23.to_RdT.1 rfl hrb (by omega) ?_
  intro w82 f82 g82 b82 z82
  have hcg2 := hcg.andNew g82.g hrng
  have c82 : Chg w50.heap.size w75.heap.size w75 w82 := Chg.of_lo b82 (Nat.le_refl _)
  clear b82 g82
  clear hcg
  have sc82 := c82.size
  replace f := f.c c82 (by omega)
  replace hd := hd.c c82 (by omega)
  replace hB := hB.c c82 (by omega)
  replace hL := hL.c c82 (by omega)
  replace f3 := f3.c c82 (by omega)
  replace f23 := f23.c c82 (by omega)
  clear f71
  have hcg := hcg2
  clear hcg2
  refine wl_nil ?_
  refine rk_seq ?_
  refine rk_region ?_
  refine wl_p (fun _ => o_move rfl) ?_
  refine wl_p (fun _ => o_nil rfl) ?_
  refine wl_p (fun _ => o_faddr (s := 85) (i := 1) (off := 1) Tryz.underlying85 rfl Tryz.sizeOf26 rfl rfl rfl) ?_
  refine wl_r (o_loadbg Tryz.isAgg26 rfl hB (by rfl)) ?_
  refine wl_p (fun _ => o_move rfl) ?_
  refine wl_p (fun _ => o_move rfl) ?_
  rw [show TA.take r ++ bs ++ TA.drop (r + bs.length) = TB from hTB] at f82
  refine wl_call rfl (C_jWriteH (M := M) (n := n0 + low) _ hd f82 hTBl rfl (by omega) (by omega) (by omega) (.inr (by omega)) (by omega) (by omega) (by omega)) ?_
  rintro _ w89 ⟨rfl, hd89, b89⟩
  have sb89 := b89.size
  replace hcg := hcg.trans (b89.wide (by omega) (by omega))
  replace f23 := f23.c b89 (by omega)
  replace hL := hL.c b89 (by omega)
  replace hB := hB.c b89 (by omega)
  replace f := f.c b89 (by omega)
  replace f82 := f82.c b89 (by omega)
  clear f3
  clear hd
  refine wl_nil ?_
  refine rk_seq ?_
  refine rk_region ?_
  refine wl_p (fun _ => o_move rfl) ?_
  refine wl_p (fun _ => o_move rfl) ?_
  refine wl_r (o_ldBa Tryz.isAgg64 Tryz.sizeOf64 rfl f nx32) ?_
  have sz93 := hcg.size
  refine wl_call rfl (K_jPut _ hB hL f23.to_RdT.1 rfl hch nx32 (by omega) (by omega) (by omega) ⟨by omega, by omega⟩ (by omega)) ?_
  rintro _ w93 ⟨rfl, L', c', hB93, hL93, q0, w92, q1, q2⟩
  refine wl_nil ?_
  refine rk_seq ?_
  refine rk_region ?_
  refine wl_p (fun _ => o_assign rfl) ?_
  refine wl_nil ?_
  refine ret1 rfl rfl ?_
  exact ⟨rfl, _, _, hB93, hL93, q0.imp id (fun h k hk => by have := h k hk; omega), _, _, hd89, hcg, q1, q2⟩
end Go.Proofs.YtnnhenafhalobaaGreat
/-
  Walks of package journal: Append's refusals.
-/
namespace Go.Proofs.YtnnhenafhalobaaGreat
set_option maxRecDepth 100000
open Go.RowKit
set_option maxRecDepth 100000 in
set_option maxHeartbeats 1000000 in
theorem K_jAppendFull {dl dh gd g c lo hi e a k s n m low tt hgh n0 M r : Nat} {S : List Sec} {C : List (Option Sec)} {L A : Option Addr} {ch b p bs nx TA TB : By} {kd : UInt8} {x : Int} (w : World) (hd : DkAt w dl dh gd S C) (hB : Blk w g 85 (jC (some ⟨g, 0, none⟩) (some ⟨gd, 0, none⟩) a e L b.length c b.length ch k s)) (hL : OwnH w lo hi L c b) (hp : Rd w A p) (hkd : x = (kd.toNat : Int)) (hn : n = p.length) (hl : p.length ≤ 9000) (hch : ch.length = 32) (hO : OkR (kd, p)) (hbs : bytesR ch (kd, p) = bs) (hnx : nextB ch (kd, p) = nx) (ha : 1 ≤ a ∧ a ≤ 256) (he : e < 18446744073709551616) (hbl : b.length ≤ a * 256) (hfit : a * 256 < b.length + bs.length) (hlo : lo ≤ hi ∧ hi ≤ w.heap.size) :
    CallsR Tryz.prog 15 [.pointer (some ⟨g, 0, none⟩), .agg #[.int .u8 x, .slice A n m]] w fun v w' => v = .int .i64 7 ∧ Below w.heap.size w w' := by
  subst hn
  have hgw := hB.lt
  refine callsR Tryz.func15 rfl rfl (by kernel_rfl) rfl ?_
  have hw := Below.refl w.heap.size w
  have nx32 : nx.length = 32 := by rw [← hnx]; exact nextB_len _ _
  refine rk_seq ?_
  refine rk_region ?_
  refine wl_boxg [_, _] rfl (by rfl) ?_
  rintro g3 w3 f3 b3 i3 i3_1
  have s3 := b3.size
  replace hw := hw.trans (b3.mono hw.size)
  refine wl_p (fun _ => o_assign rfl) ?_
  refine wl_nil ?_
  refine rk_seq ?_
  refine rk_seq ?_
  refine rk_region ?_
  refine wl_p (fun _ => o_move rfl) ?_
  refine wl_call rfl (C_jValid _ (hB.u hw)) ?_
  rintro v15 w15 ⟨rfl, rfl⟩
  refine wl_p (fun _ => o_not rfl) ?_
  refine wl_nil ?_
  refine rk_false rfl ?_
  refine rk_skip ?_
  refine rk_seq ?_
  refine rk_drawo (id := 3) (none) [0, 1, 2, 4, 0, 24, 32, 64, 64, 64, 0, 1279, 3583, 8191] [0, 1, 3, 7, 0, 31, 63, 127, 127, 127, 0, 1279, 3583, 8191] 5152 1024 [0, 1, 2, 3, 4] [(.p, 0), (.p, 1), (.p, 2), (.s, 3), (.s, 4), (.f 31 5152 1024, 9)] (by kernel_rfl) (by kernel_rfl) (by kernel_rfl) (by kernel_rfl) (by kernel_rfl) ?_
  dsimp only [inOrder, nthOp]
  replace hw := hw.drew
  replace f3 := f3.d
  refine wl_p (fun _ => o_move rfl) ?_
  refine wl_p (fun _ => o_nil rfl) ?_
  refine wl_p (fun _ => o_faddr (s := 85) (i := 6) (off := 6) Tryz.underlying85 rfl Tryz.sizeOf64 rfl rfl rfl) ?_
  refine wl_s (fun _ hk => (o_ldJch rfl ((hB.u hw).u (below_of_grown_none hk)) hch)) ?_
  refine wl_s (fun _ hk => (o_loadag Tryz.isAgg37 Tryz.sizeOf37 rfl (f3.u (below_of_grown_none hk)) (by rfl))) ?_
  have hdhi := hd.hi
  try simp only [drew_size] at hdhi
  refine wl_conc [⟨5, [(.p, 6), (.p, 7), (.p, 8), (.p, 9)], [26, 25, 24, 17, 23], [], fun vs w' lo hi => ∃ (A24 : Option Addr) (c24 : Nat) (u17 u23 : Value), vs = [.int .i64 0, .agg (B8 nx).toArray, .slice A24 bs.length c24, u17, u23] ∧ OwnH w' lo hi A24 c24 bs⟩, ⟨10, [], [6], [], fun vs w' lo hi => ∃ (g6 : Nat), vs = [.pointer (some ⟨g6, 0, none⟩)] ∧ Blk w' g6 64 (B8 nul32) ∧ lo ≤ g6 ∧ g6 < hi⟩] [0, 1] [0, 1, 2, 4, 0, 24, 32, 64, 64, 64, 0, 1279, 3583, 8191] [0, 1, 3, 7, 0, 31, 63, 127, 127, 127, 0, 1279, 3583, 8191] [11, 12, 13] [(.p, 11), (.l, 12), (.p, 13)] (by kernel_rfl) (by kernel_rfl) (by kernel_rfl) (by kernel_rfl) ⟨fun _ _ _ _ _ h hb => by obtain ⟨A24, c24, u17, u23, e0, g0⟩ := h; exact ⟨A24, c24, u17, u23, e0, g0.u hb⟩, fun _ _ _ _ _ h hb => by obtain ⟨g6, e0, g0, g1, g2⟩ := h; exact ⟨g6, e0, g0.u hb, g1, g2⟩, trivial⟩ ⟨?_, ?_, trivial⟩ ?_
  · intro wI hbI fo T T2 n2
    intro hk
    dsimp only [Item.idx, inOrder, nthOp, List.map, List.zip_cons_cons, List.zip_nil_right, List.cons_append, List.nil_append]
    have shbI := hbI.size
    simp only [drew_size] at shbI
    replace hw := hw.trans (hbI.mono hw.size)
    replace f3 := f3.u hbI
    have hw1 := Below.refl wI.heap.size wI
    refine wl_call rfl (C_RecBytesOk _ hkd (hp.u hw) (by omega) hbs hnx rfl (by omega) hch) ?_
    rintro v23 w23 ⟨A23, ⟨c23, ⟨rfl, ⟨f23, b23⟩⟩⟩⟩
    have qf23 := f23.cap
    have s23 := b23.size
    replace hw := hw.trans (b23.mono hw.size)
    replace hw1 := hw1.trans (b23.mono hw1.size)
    replace f3 := f3.u b23
    refine wl_p (fun _ => o_move rfl) ?_
    refine wl_p (fun _ => o_ext30 rfl) ?_
    refine wl_p (fun _ => o_ext31 rfl) ?_
    refine wl_p (fun _ => o_ext32 rfl) ?_
    exact hk [_, _, _, _, _] _ ⟨_, _, _, _, rfl, f23⟩ hw1
  · intro wI hbI fo T T2 n2
    intro hk
    dsimp only [Item.idx, inOrder, nthOp, List.map, List.zip_cons_cons, List.zip_nil_right, List.cons_append, List.nil_append]
    have shbI := hbI.size
    simp only [drew_size] at shbI
    replace hw := hw.trans (hbI.mono hw.size)
    replace f3 := f3.u hbI
    have hw1 := Below.refl wI.heap.size wI
    refine wl_allocB Tryz.underlying64 Tryz.zeroValue64 (by rfl) ?_
    rintro g6 w6 f6 b6 i6 i6_1
    have s6 := b6.size
    replace hw := hw.trans (b6.mono hw.size)
    replace hw1 := hw1.trans (b6.mono hw1.size)
    replace f3 := f3.u b6
    exact hk [_] _ ⟨_, rfl, f6, by omega, by omega⟩ hw1
  intro wE hbE
  rintro _ lo0 hi0 ⟨A24, c24, u17, u23, rfl, f23⟩ ql0 qm0 qh0 -
  rintro _ lo1 hi1 ⟨g6, rfl, f6, f6_1, f6_2⟩ ql1 qm1 qh1 ⟨qa1_0, -⟩
  try dsimp only at ql0 qm0 qh0  ql1 qm1 qh1 qa1_0
  try simp only [drew_size] at ql0 qm0 qh0  ql1 qm1 qh1 qa1_0
  dsimp only [given, Item.idx, inOrder, nthOp, List.map, List.zip_cons_cons, List.zip_nil_right]
  have shbE := hbE.size
  simp only [drew_size] at shbE
  replace hw := hw.trans (hbE.mono hw.size)
  replace f3 := f3.u hbE
  refine wl_p (fun _ => o_assign rfl) ?_
  refine wl_stBa Tryz.sizeOf64 rfl f6 rfl nx32 (by rfl) ?_
  rintro w_1 f g_1 e_1
  have s_1 := g_1.size
  replace hw := hw.trans (below_of_grownBy g_1.g hw.size (by omega))
  replace f3 := f3.k g_1.g (ap_some (by omega))
  replace f23 := f23.k g_1.g (ap_some (by omega))
  clear f6
  refine wl_p (fun _ => o_assign rfl) ?_
  refine wl_nild ?_
  refine rk_seq ?_
  refine rk_seq ?_
  refine rk_region ?_
  refine wl_p (fun _ => o_move rfl) ?_
  refine wl_p (fun _ => o_ne rfl rfl) ?_
  refine wl_nil ?_
  refine rk_false rfl ?_
  refine rk_skip ?_
  refine rk_seq ?_
  refine rk_seq ?_
  refine rk_region ?_
  refine wl_p (fun _ => o_move rfl) ?_
  refine wl_p (fun _ => o_len (t := 35) Tryz.underlying35 rfl) ?_
  refine wl_p (fun _ => o_move rfl) ?_
  refine wl_call rfl (C_jLeft _ (hB.u hw) (by rfl) (by omega) (by omega)) ?_
  rintro v33 w33 ⟨rfl, b33⟩
  have s33 := b33.size
  replace hw := hw.trans (b33.mono hw.size)
  replace f23 := f23.u b33
  replace f3 := f3.u b33
  replace f := f.u b33
  refine wl_p (fun _ => o_gt rfl rfl) ?_
  refine wl_nil ?_
  refine rk_if rfl (fun h34 => ?_) (fun h34 => h34.elim (by omega))
  refine rk_seq ?_
  refine rk_region ?_
  refine wl_p (fun _ => o_assign rfl) ?_
  refine wl_nil ?_
  refine ret1 rfl rfl ?_
  exact ⟨rfl, hw⟩
end Go.Proofs.YtnnhenafhalobaaGreat
/-
  Walks of package journal: Open, change, Switch, Records.
-/
namespace Go.Proofs.YtnnhenafhalobaaGreat
set_option maxRecDepth 100000
open Go.RowKit
end Go.Proofs.YtnnhenafhalobaaGreat
/-
  Walks of package journal: change.
-/
namespace Go.Proofs.YtnnhenafhalobaaGreat
set_option maxRecDepth 100000
open Go.RowKit
theorem bytesAll_succ (c : By) (R : List Rc) {i : Nat} (hi : i < R.length) : bytesAll c (R.take (i + 1)) = bytesAll c (R.take i) ++ bytesR (chainAll c (R.take i)) R[i] := by
  rw [List.take_succ_eq_append_getElem hi, bytesAll_append]
  congr 1
  simp [bytesAll]
theorem chainAll_succ (c : By) (R : List Rc) {i : Nat} (hi : i < R.length) : chainAll c (R.take (i + 1)) = nextB (chainAll c (R.take i)) R[i] := by
  rw [List.take_succ_eq_append_getElem hi, chainAll_append]
  rfl
theorem bytesAll_take_le (c : By) (R : List Rc) (i : Nat) : (bytesAll c (R.take i)).length ≤ (bytesAll c R).length := by
  conv => rhs; rw [← List.take_append_drop i R, bytesAll_append, List.length_append]
  omega
/-- How many bytes records have, whatever the chain. -/
def szR : List Rc → Nat
  | [] => 0
  | r :: R => ((bodyB r).length + 8) + szR R
theorem bytesAll_sz : ∀ (c : By) (R : List Rc), (bytesAll c R).length = szR R
  | _, [] => rfl
  | c, r :: R => by rw [bytesAll, List.length_append, bytesR_len, bytesAll_sz _ R]; rfl
section
variable {fn : Func} {F : Ending → World → Prop} {N : Nat} {ks : List K} {ops : Array Oper} {tg : Tags} {l : List Oper} {fr : Fr} {w : World} {ty t t2 : TypeId} {pos : String} {aft : Array Edge} {gd : Option (Nat × Bool)} {d n c c' j q lo hi : Nat} {x y : Operand} {A B : Option Addr} {s m r : By}
--@ hide wl_cpH
--@ hide C_jWrite
--@ hide K_jPut
--@ rule copy l wl_cpJ
/-- copy, of a few bytes, to the start of bytes of the call's own. -/
theorem wl_cpJ (T : U8 Tryz.prog t) (hx : fr.ev x = some (.slice A n c')) (hown : OwnH w lo hi A c s) (hy : fr.ev y = some (.slice B j q)) (hj : j = m.length) (hr : Rd w B m) (hn : n = s.length) (hm : m.length ≤ s.length) (h0 : 0 < s.length) (hres : overJ s 0 m = r)
    (hk : ∀ w', OwnH w' lo hi A c r → Grew w w' 5 (blk A) → Below lo w w' → w'.heap.size = w.heap.size → WL Tryz.prog fn F N ks ops tg.tail l ((d, .int .i64 (m.length : Nat)) :: fr) w')
    (ht : tg.loud = true := by rfl) (hg : onG ops fr gd = true := by rfl) (hd : Nat.blt d N = true := by rfl) (hq : tg.calm = false ∨ blk A = tg.row := by exact .inl rfl) :
    WL Tryz.prog fn F N ks ops tg (⟨some d, .call { callee := .builtin .copy, args := #[x, y], argTypes := #[t, t2] }, ty, pos, aft, gd⟩ :: l) fr w := by
  subst hres
  have hT := RowH.ty hown
  have hown0 : RowH w lo hi 5 1 A s.length c (B8 s) := hown
  obtain ⟨g, cur, rfl, g1, g2, hB, g3, g4, g5⟩ := hown0.blk_ (by omega)
  rw [Nat.mul_one] at g4 g5
  have htk : m.take n = m := List.take_of_length_le (by omega)
  refine wl_copy T hx hy hj hr hB (by omega) (fun w' h1 h2 h3 => ?_) ht hg hd (hq.imp id (fun e => e))
  rw [htk] at h1
  have hmin : min j n = m.length := by omega
  rw [hmin]
  have h4 := hown0.spl_ hB h1 (by rw [B8_length]; omega) (by omega)
  have e1 : spl (B8 s) 0 (B8 m) = B8 (overJ s 0 m) := by
    unfold spl overJ
    rw [B8_length]
    simp [B8, List.map_append, List.map_take, List.map_drop]
  have e2 : (overJ s 0 m).length = s.length := overJ_len (by omega)
  rw [e1] at h4
  have hlt := RowH.lt hown0 g rfl
  have hgr : Grew w w' 5 (blk (some (⟨g, 0, none⟩ : Addr))) := ⟨h2, hT⟩
  refine hk w' ?_ hgr (hgr.below (by omega) (fun k' hk' => by have hk2 : g = k' := (by simpa [blk] using hk'); omega)) h3
  unfold OwnH
  rw [e2]
  exact h4
end
theorem OwnH.top {w : World} {lo hi c : Nat} {A : Option Addr} {l : By} (h : OwnH w lo hi A c l) : OwnH w lo w.heap.size A c l := ⟨RowH.o h, fun k hk => (RowH.lt h k hk).2⟩
theorem C_jFirstB {z a : Int} {e m n : Nat} (w : World) (hz : z = e) (ha : a = m) (hn : 2 + e % 2 * m = n) (he : e < 18446744073709551616) (hm : m ≤ 256) : CallsR Tryz.prog 43 [.int .u64 z, .int .i64 a] w fun v w' => v = .int .i64 (n : Int) ∧ Below w.heap.size w w' := by
  refine (C_jFirst w hz ha hn he hm).mono ?_
  rintro v w' ⟨rfl, rfl⟩
  exact ⟨rfl, Below.refl _ _⟩
set_option maxRecDepth 100000 in
set_option maxHeartbeats 4000000 in
theorem K_jChange {dl dh gd g a e c n n0 c0 nr e1 : Nat} {t k s : Int} {S S1 S2 : List Sec} {C Ca Cb C1 : List (Option Sec)} {L A : Option Addr} {ch b ZA TW hx nx : By} {u : D32} {R : List Rc} (w : World) (hd : DkAt w dl dh gd S C) (hB : Blk w g 85 (jC (some ⟨g, 0, none⟩) (some ⟨gd, 0, none⟩) a e L n c t ch k s)) (hch : ch.length = 32) (hR : RRec w A R) (hnr : nr = R.length) (hRo : ∀ r ∈ R, OkR r) (ha : 1 ≤ a ∧ a ≤ 256) (he : e < 18446744073709551616) (he1 : (e + 1) % 18446744073709551616 = e1) (hu : sumB [wB8 e1] = u.1) (hb : bytesAll u.1 R = b) (hnx : chainAll u.1 R = nx) (hfit : b.length ≤ a * 256) (hsz : 2 + 2 * a ≤ S.length) (hgd : g < dl ∨ dh ≤ g) (hn0 : 2 + e1 % 2 * a = n0) (hZA : List.replicate (a * 256) 0 = ZA) (hTW : overJ ZA 0 b = TW) (hhb : headB e1 a = hx) (h1 : wrs C n0 (secsN a TW) = Ca) (h3 : cur S Ca = S1) (h4 : List.replicate S.length none = C1) (h5 : wrs C1 (e1 % 2) (secsN 1 hx) = Cb) (h6 : cur S1 Cb = S2) :
    CallsR Tryz.prog 58 [.pointer (some ⟨g, 0, none⟩), .slice A nr c0] w fun v w' => v = .tuple #[] ∧ ∃ L' c', Blk w' g 85 (jC (some ⟨g, 0, none⟩) (some ⟨gd, 0, none⟩) a e1 L' b.length c' b.length nx nr nr) ∧ OwnH w' w.heap.size w'.heap.size L' c' b ∧ DkAt w' dl dh gd S2 C1 ∧ ∃ w1, Chg dl dh w w1 ∧ Grew w1 w' 85 (some g) := by
  subst hnr
  have hgw := hB.lt
  have hdh := hd.hi
  have hn32 : nx.length = 32 := by rw [← hnx]; exact chainAll_len u.2 _
  have hZl : ZA.length = a * 256 := by rw [← hZA, List.length_replicate]
  have hTl : TW.length = 256 * a := by rw [← hTW, overJ_len (by omega)]; omega
  have hS1 : S1.length = S.length := by rw [← h3, cur_len]
  have h4b : List.replicate S1.length none = C1 := by rw [hS1, h4]
  have hn0b : n0 ≤ 2 + a := by
    rw [← hn0]
    have := Nat.mul_le_mul_right a (show e1 % 2 ≤ 1 by omega)
    omega
  have hRl : R.length ≤ 65536 := by have := bytesAll_ge u.1 R; rw [hb] at this; omega
  have he2 : e1 < 18446744073709551616 := by omega
  refine callsR Tryz.func58 rfl rfl (by kernel_rfl) rfl ?_
  have hw := Below.refl w.heap.size w
  refine rk_seq ?_
  refine rk_draw (id := 0) (none) [0, 1, 2, 4, 0, 16, 32, 64, 0, 256, 512, 1024, 2048, 4232, 16383] [0, 1, 3, 7, 0, 16, 48, 112, 0, 256, 768, 1792, 3840, 8191, 16383] 8192 0 [(.p, 0), (.p, 1), (.p, 2), (.r, 3), (.p, 4), (.p, 5), (.p, 6), (.r, 7), (.p, 8), (.p, 9), (.p, 10), (.r, 11), (.p, 12), (.l, 13), (.p, 14)] (by kernel_rfl) (by kernel_rfl) (by kernel_rfl) (by kernel_rfl) (by kernel_rfl) ?_
  replace hw := hw.drew
  refine wl_p (fun _ => o_move rfl) ?_
  refine wl_p (fun _ => o_nil rfl) ?_
  refine wl_p (fun _ => o_faddr (s := 85) (i := 1) (off := 1) Tryz.underlying85 rfl Tryz.sizeOf26 rfl rfl rfl) ?_
  refine wl_r (o_loadbg Tryz.isAgg26 rfl (hB.u hw) (by rfl)) ?_
  refine wl_p (fun _ => o_move rfl) ?_
  refine wl_p (fun _ => o_nil rfl) ?_
  refine wl_p (fun _ => o_faddr (s := 85) (i := 2) (off := 2) Tryz.underlying85 rfl Tryz.sizeOf3 rfl rfl rfl) ?_
  refine wl_r (o_loadbg Tryz.isAgg3 rfl (hB.u hw) (by rfl)) ?_
  refine wl_p (fun _ => o_move rfl) ?_
  refine wl_p (fun _ => o_nil rfl) ?_
  refine wl_p (fun _ => o_faddr (s := 85) (i := 3) (off := 3) Tryz.underlying85 rfl Tryz.sizeOf52 rfl rfl rfl) ?_
  refine wl_r (o_loadbg Tryz.isAgg52 rfl (hB.u hw) (by rfl)) ?_
  refine wl_p (fun _ => o_addw rfl rfl) ?_
  rw [show IntKind.u64.wrap ((e : Int) + 1) = (e1 : Int) by rw [← he1]; simp [IntKind.wrap, IntKind.signed, IntKind.bits]]
  refine wl_call rfl (C_jMade _ rfl (by omega) hu) ?_
  rintro v24 w24 ⟨g24, ⟨rfl, ⟨f24, ⟨i24, b24⟩⟩⟩⟩
  simp only [drew_size] at i24
  simp only [drew_size] at b24
  have s24 := b24.size
  simp only [drew_size] at s24
  replace hw := hw.trans (b24.mono hw.size)
  refine wl_p (fun _ => o_assign rfl) ?_
  refine wl_nild ?_
  refine rk_seq ?_
  refine rk_seq ?_
  refine rk_region ?_
  refine wl_p (fun _ => o_move rfl) ?_
  refine wl_p (fun _ => o_len (t := 44) Tryz.underlying44 rfl) ?_
  refine wl_p (fun _ => o_move rfl) ?_
  refine wl_nil ?_
  refine rk_block ?_
  have hg24 : w.heap.size ≤ g24 := by omega
  refine rk_joinf (fun fb fr W => ∃ (L' : Option Addr) (c' : Nat), fr = [] ++ fb.drop 1 ∧ Blk W g24 85 (jC (some ⟨g24, 0, none⟩) (some ⟨gd, 0, none⟩) a e1 L' b.length c' b.length nx R.length 0) ∧ OwnH W w.heap.size W.heap.size L' c' b ∧ Below w.heap.size w W) ?_ (fun ks hj => ?_)
  rotate_left
  · refine rk_loopf (fun fb m fr W => ∃ (i : Nat) (v : Int) (L' : Option Addr) (c' : Nat) (q x : By), fr = [(27, .int .i64 v)] ++ fb.drop 1 ∧ v = i ∧ i ≤ R.length ∧ m = R.length - i ∧ q = bytesAll u.1 (R.take i) ∧ x = chainAll u.1 (R.take i) ∧ Blk W g24 85 (jC (some ⟨g24, 0, none⟩) (some ⟨gd, 0, none⟩) a e1 L' q.length c' q.length x i 0) ∧ OwnH W w.heap.size W.heap.size L' c' q ∧ Below w.heap.size w W) (n := R.length) (Fr.le_of (by kernel_rfl) (by kernel_rfl) (by repeat' constructor)) ⟨0, _, none, 0, [], u.1, rfl, rfl, by omega, rfl, rfl, rfl, f24, OwnH.nil_, hw⟩ ?_
    clear hw f24
    rintro m fr W ⟨i, v, L', c', q, x, rfl, rfl, hi, rfl, hq, hxx, fj, fo, hw⟩
    have shw := hw.size
    have hgj := fj.lt
    have hx32 : x.length = 32 := by rw [hxx]; exact chainAll_len u.2 _
    have hql : q.length ≤ b.length := by rw [hq, ← hb]; exact bytesAll_take_le _ _ _
    first | refine rk_frame (by simp only [List.cons_append, List.nil_append, List.drop_succ_cons, List.drop_zero]; rfl) ?_ | refine wl_frame (by simp only [List.cons_append, List.nil_append, List.drop_succ_cons, List.drop_zero]; rfl) ?_
    by_cases hil : i < R.length
    · have hO := hRo _ (List.getElem_mem hil)
      have e1' := bytesAll_succ u.1 R hil
      have e2' := chainAll_succ u.1 R hil
      have hpl := hO.2
      obtain ⟨bs, hbs⟩ : ∃ bs, bytesR x R[i] = bs := ⟨_, rfl⟩
      obtain ⟨y, hy⟩ : ∃ y, nextB x R[i] = y := ⟨_, rfl⟩
      have hy32 : y.length = 32 := by rw [← hy]; exact nextB_len _ _
      rw [← hq, ← hxx, hbs] at e1'
      rw [← hxx, hy] at e2'
      have hql2 : q.length + bs.length ≤ b.length := by rw [← List.length_append, ← e1', ← hb]; exact bytesAll_take_le _ _ _
      refine rk_seq ?_
      refine rk_region ?_
      refine wl_p (fun _ => o_lt rfl rfl) ?_
      refine wl_nil ?_
      refine rk_seq ?_
      refine rk_if rfl (fun h28 => ?_) (fun h28 => h28.elim (by omega))
      refine rk_skip ?_
      refine rk_seq ?_
      refine rk_block ?_
      refine rk_seq ?_
      refine rk_region ?_
      refine wl_p (fun _ => (o_iaddrA (i) Tryz.underlying44 Tryz.sizeOf37 rfl rfl rfl (hR.some_ (by omega)) (by omega))) ?_
      refine wl_ldRec rfl hR hw (by omega) ?_
      rintro A130 c130 f30 i30 i30_1
      refine wl_allocg [_, _] Tryz.zeroValue37 (by rfl) ?_
      rintro g6 w6 f6 b6 i6 i6_1
      have s6 := b6.size
      replace hw := hw.trans (b6.mono hw.size)
      replace fo := fo.u b6
      replace fj := fj.u b6
      refine wl_storega Tryz.sizeOf37 rfl rfl (by rfl) (oneCell_of (by rfl)) f6 (by rfl) ?_
      rintro w_1 f g_1 e_1
      have s_1 := g_1.size
      replace hw := hw.trans (below_of_grownBy g_1.g hw.size (by omega))
      replace fj := fj.k g_1.g (ap_some (by omega))
      replace fo := fo.k g_1.g (ap_some (by omega))
      clear f6
      refine wl_nil ?_
      refine rk_seq ?_
      refine rk_drawo (id := 4) (none) [0, 1, 2, 4, 0, 24, 32, 64, 64, 64, 0, 1279, 3583, 8191] [0, 1, 3, 7, 0, 31, 63, 127, 127, 127, 0, 1279, 3583, 8191] 5152 1024 [0, 1, 2, 3, 4] [(.p, 0), (.p, 1), (.p, 2), (.s, 3), (.s, 4), (.f 31 5152 1024, 9)] (by kernel_rfl) (by kernel_rfl) (by kernel_rfl) (by kernel_rfl) (by kernel_rfl) ?_
      dsimp only [inOrder, nthOp]
      replace hw := hw.drew
      replace fo := fo.d
      replace fj := fj.d
      replace f := f.d
      refine wl_p (fun _ => o_move rfl) ?_
      refine wl_p (fun _ => o_nil rfl) ?_
      refine wl_p (fun _ => o_faddr (s := 85) (i := 6) (off := 6) Tryz.underlying85 rfl Tryz.sizeOf64 rfl rfl rfl) ?_
      refine wl_s (fun _ hk => (o_ldJch rfl (fj.u (below_of_grown_none hk)) hx32)) ?_
      refine wl_s (fun _ hk => (o_loadag Tryz.isAgg37 Tryz.sizeOf37 rfl (f.u (below_of_grown_none hk)) (by rfl))) ?_
      refine wl_conc [⟨5, [(.p, 6), (.p, 7), (.p, 8), (.p, 9)], [40, 39, 38, 31, 37], [], fun vs w' lo hi => ∃ (A37 : Option Addr) (c37 : Nat) (u31 u37 : Value), vs = [.int .i64 0, .agg (B8 y).toArray, .slice A37 bs.length c37, u31, u37] ∧ OwnH w' lo hi A37 c37 bs⟩, ⟨10, [], [8], [], fun vs w' lo hi => ∃ (g8 : Nat), vs = [.pointer (some ⟨g8, 0, none⟩)] ∧ Blk w' g8 64 (B8 nul32) ∧ lo ≤ g8 ∧ g8 < hi⟩] [0, 1] [0, 1, 2, 4, 0, 24, 32, 64, 64, 64, 0, 1279, 3583, 8191] [0, 1, 3, 7, 0, 31, 63, 127, 127, 127, 0, 1279, 3583, 8191] [11, 12, 13] [(.p, 11), (.l, 12), (.p, 13)] (by kernel_rfl) (by kernel_rfl) (by kernel_rfl) (by kernel_rfl) ⟨fun _ _ _ _ _ h hb => by obtain ⟨A37, c37, u31, u37, e0, g0⟩ := h; exact ⟨A37, c37, u31, u37, e0, g0.u hb⟩, fun _ _ _ _ _ h hb => by obtain ⟨g8, e0, g0, g1, g2⟩ := h; exact ⟨g8, e0, g0.u hb, g1, g2⟩, trivial⟩ ⟨?_, ?_, trivial⟩ ?_
      · intro wI hbI fo T T2 n2
        intro hk
        dsimp only [Item.idx, inOrder, nthOp, List.map, List.zip_cons_cons, List.zip_nil_right, List.cons_append, List.nil_append]
        have shbI := hbI.size
        simp only [drew_size] at shbI
        replace hw := hw.trans (hbI.mono hw.size)
        replace f := f.u hbI
        replace fj := fj.u hbI
        have hw1 := Below.refl wI.heap.size wI
        refine wl_call rfl (C_RecBytesOk _ (by rfl) (f30.u hw) (by omega) hbs hy rfl (by omega) hx32) ?_
        rintro v37 w37 ⟨A37, ⟨c37, ⟨rfl, ⟨f37, b37⟩⟩⟩⟩
        have qf37 := f37.cap
        have s37 := b37.size
        replace hw := hw.trans (b37.mono hw.size)
        replace hw1 := hw1.trans (b37.mono hw1.size)
        replace fj := fj.u b37
        replace f := f.u b37
        refine wl_p (fun _ => o_move rfl) ?_
        refine wl_p (fun _ => o_ext30 rfl) ?_
        refine wl_p (fun _ => o_ext31 rfl) ?_
        refine wl_p (fun _ => o_ext32 rfl) ?_
        exact hk [_, _, _, _, _] _ ⟨_, _, _, _, rfl, f37⟩ hw1
      · intro wI hbI fo T T2 n2
        intro hk
        dsimp only [Item.idx, inOrder, nthOp, List.map, List.zip_cons_cons, List.zip_nil_right, List.cons_append, List.nil_append]
        have shbI := hbI.size
        simp only [drew_size] at shbI
        replace hw := hw.trans (hbI.mono hw.size)
        replace f := f.u hbI
        replace fj := fj.u hbI
        have hw1 := Below.refl wI.heap.size wI
        refine wl_allocB Tryz.underlying64 Tryz.zeroValue64 (by rfl) ?_
        rintro g8 w8 f8 b8 i8 i8_1
        have s8 := b8.size
        replace hw := hw.trans (b8.mono hw.size)
        replace hw1 := hw1.trans (b8.mono hw1.size)
        replace fj := fj.u b8
        replace f := f.u b8
        exact hk [_] _ ⟨_, rfl, f8, by omega, by omega⟩ hw1
      intro wE hbE
      rintro _ lo0 hi0 ⟨A37, c37, u31, u37, rfl, f37⟩ ql0 qm0 qh0 -
      rintro _ lo1 hi1 ⟨g8, rfl, f8, f8_1, f8_2⟩ ql1 qm1 qh1 ⟨qa1_0, -⟩
      try dsimp only at ql0 qm0 qh0  ql1 qm1 qh1 qa1_0
      try simp only [drew_size] at ql0 qm0 qh0  ql1 qm1 qh1 qa1_0
      dsimp only [given, Item.idx, inOrder, nthOp, List.map, List.zip_cons_cons, List.zip_nil_right]
      have shbE := hbE.size
      simp only [drew_size] at shbE
      replace hw := hw.trans (hbE.mono hw.size)
      replace f := f.u hbE
      replace fj := fj.u hbE
      replace fo := fo.u hbE
      refine wl_p (fun _ => o_assign rfl) ?_
      refine wl_stBa Tryz.sizeOf64 rfl f8 rfl hy32 (by rfl) ?_
      rintro w_2 f_1 g_2 e_2
      have s_2 := g_2.size
      replace hw := hw.trans (below_of_grownBy g_2.g hw.size (by omega))
      replace fo := fo.k g_2.g (ap_some (by omega))
      replace fj := fj.k g_2.g (ap_some (by omega))
      replace f := f.k g_2.g (ap_some (by omega))
      replace f37 := f37.k g_2.g (ap_some (by omega))
      clear f8
      refine wl_p (fun _ => o_assign rfl) ?_
      refine wl_nild ?_
      refine rk_region ?_
      refine wl_p (fun _ => o_move rfl) ?_
      refine wl_p (fun _ => o_move rfl) ?_
      refine wl_r (o_ldBa Tryz.isAgg64 Tryz.sizeOf64 rfl f_1 hy32) ?_
      have sw2 := hw.size
      refine wl_call rfl (K_jPut _ fj fo f37.to_RdT.1 rfl hx32 hy32 (by omega) (by omega) (by omega) ⟨by omega, by omega⟩ (by omega)) ?_
      rintro _ w44 ⟨rfl, L2, c2, fj2, fo2, _, w43, q1, q2⟩
      have hw2 := (hw.trans (q1.below (by omega) (fun j e => (RowH.lt fo j e).1))).trans (q2.below (by have := q1.size; omega) (fun j e => by injection e with e; omega))
      clear hw fj fo
      have hw := hw2
      clear hw2
      refine wl_nil ?_
      refine rk_blk ?_
      refine rk_region ?_
      refine wl_p (fun _ => o_add rfl rfl (by omega) (by omega)) ?_
      refine wl_p (fun _ => o_move rfl) ?_
      refine wl_nil ?_
      exact rk_againf (Fr.le_of (by kernel_rfl) (by kernel_rfl) (by repeat' constructor)) ⟨i + 1, (i : Int) + 1, L2, c2, q ++ bs, y, rfl, by omega, by omega, rfl, e1'.symm, e2'.symm, fj2, fo2, hw⟩ (by omega)
    · refine rk_seq ?_
      refine rk_region ?_
      refine wl_p (fun _ => o_lt rfl rfl) ?_
      refine wl_nil ?_
      refine rk_seq ?_
      refine rk_if rfl (fun h28 => absurd h28 (by omega)) (fun h28 => ?_)
      refine rk_exit rfl ?_
      obtain rfl : i = R.length := by omega
      rw [List.take_length] at hq hxx
      obtain rfl : q = b := hq.trans hb
      obtain rfl : x = nx := hxx.trans hnx
      exact rk_tof hj (Fr.le_of (by kernel_rfl) (by kernel_rfl) (by repeat' constructor)) ⟨L', c', rfl, fj, fo, hw⟩
  clear hw f24
  rintro fr W ⟨L', c', rfl, fj, fo, hw⟩
  have shw := hw.size
  first | refine rk_frame (by simp only [List.cons_append, List.nil_append, List.drop_succ_cons, List.drop_zero]; rfl) ?_ | refine wl_frame (by simp only [List.cons_append, List.nil_append, List.drop_succ_cons, List.drop_zero]; rfl) ?_
  refine rk_seq ?_
  refine rk_region ?_
  refine wl_p (fun _ => o_move rfl) ?_
  refine wl_p (fun _ => o_move rfl) ?_
  refine wl_p (fun _ => o_nil rfl) ?_
  refine wl_p (fun _ => o_faddr (s := 85) (i := 7) (off := 38) Tryz.underlying85 rfl Tryz.sizeOf3 rfl rfl rfl) ?_
  refine wl_r (o_ldJk rfl fj hn32) ?_
  refine wl_p (fun _ => o_nil rfl) ?_
  refine wl_p (fun _ => o_faddr (s := 85) (i := 8) (off := 39) Tryz.underlying85 rfl Tryz.sizeOf3 rfl rfl rfl) ?_
  refine wl_stJs rfl fj rfl hn32 ?_
  rintro w_1 f g_1 e_1
  have s_1 := g_1.size
  replace hw := hw.trans (below_of_grownBy g_1.g hw.size (by omega))
  replace fo := fo.y g_1 (by decide)
  clear fj
  refine wl_nil ?_
  refine rk_seq ?_
  refine rk_region ?_
  refine wl_p (fun _ => o_move rfl) ?_
  refine wl_p (fun _ => o_nil rfl) ?_
  refine wl_p (fun _ => o_faddr (s := 85) (i := 2) (off := 2) Tryz.underlying85 rfl Tryz.sizeOf3 rfl rfl rfl) ?_
  refine wl_r (o_loadbg Tryz.isAgg3 rfl (hB.u hw) (by rfl)) ?_
  refine wl_call rfl (C_jStart _ (by omega)) ?_
  rintro v57 w57 ⟨rfl, b57⟩
  have s57 := b57.size
  replace hw := hw.trans (b57.mono hw.size)
  replace fo := fo.u b57
  replace f := f.u b57
  have sw57 := hw.size
  refine wl_mkBz (a * 256) rfl rfl (by omega) (by rfl) (by omega) hZA ?_
  rintro A58 w58 f58 b58
  have qf58 := f58.cap
  have s58 := b58.size
  replace hw := hw.trans (b58.mono hw.size)
  replace f := f.u b58
  replace fo := fo.u b58
  refine wl_p (fun _ => o_assign rfl) ?_
  refine wl_nil ?_
  refine rk_seq ?_
  refine rk_draw (id := 9) (none) [0, 0, 2, 4, 8, 0, 32, 64, 128, 272, 513] [0, 0, 2, 6, 14, 0, 32, 96, 224, 510, 1023] 1024 0 [(.p, 0), (.p, 1), (.p, 2), (.p, 3), (.r, 4), (.p, 5), (.p, 6), (.p, 7), (.r, 8), (.p, 9), (.l, 10)] (by kernel_rfl) (by kernel_rfl) (by kernel_rfl) (by kernel_rfl) (by kernel_rfl) ?_
  replace hw := hw.drew
  replace fo := fo.d
  replace f := f.d
  replace f58 := f58.d
  refine wl_p (fun _ => o_move rfl) ?_
  refine wl_p (fun _ => o_move rfl) ?_
  refine wl_p (fun _ => o_nil rfl) ?_
  refine wl_p (fun _ => o_faddr (s := 85) (i := 4) (off := 4) Tryz.underlying85 rfl Tryz.sizeOf35 rfl rfl rfl) ?_
  refine wl_r (o_loadbg Tryz.isAgg35 rfl f (by rfl)) ?_
  refine wl_p (fun _ => o_move rfl) ?_
  refine wl_p (fun _ => o_nil rfl) ?_
  refine wl_p (fun _ => o_faddr (s := 85) (i := 5) (off := 5) Tryz.underlying85 rfl Tryz.sizeOf80 rfl rfl rfl) ?_
  refine wl_r (o_loadbg Tryz.isAgg80 rfl f (by rfl)) ?_
  refine wl_slBh Tryz.u8 (List.length b) rfl rfl fo.to_Rd rfl rfl (by omega) fo.cap ?_
  rintro f68
  refine wl_cpJ Tryz.u8 rfl f58 rfl (by simp) f68 (by omega) (by simp; omega) (by omega) (by rfl) ?_
  rintro w69 f69 g69 b69 e69
  simp only [drew_size] at e69
  have qf69 := f69.cap
  have s69 := g69.size
  simp only [drew_size] at s69
  replace hw := hw.trans (b69.mono (by omega))
  replace f := f.y g69 (by decide)
  replace fo := fo.k g69.g (f69.ap (by omega))
  clear f68
  clear f58
  refine wl_nild ?_
  refine rk_seq ?_
  refine rk_drawo (id := 10) (none) [0, 1, 2, 4, 0, 16, 32, 64, 0, 256, 512, 1024, 2176, 0, 12296] [0, 1, 3, 7, 0, 16, 48, 112, 0, 256, 768, 1792, 4080, 0, 16383] 20480 4096 [0, 1, 2, 3, 4, 5, 6, 7, 8, 9, 10, 11, 13, 12, 14] [(.p, 0), (.p, 1), (.p, 2), (.s, 3), (.p, 4), (.p, 5), (.p, 6), (.r, 7), (.p, 8), (.p, 9), (.p, 10), (.r, 11), (.p, 13), (.c, 12), (.l, 14)] (by kernel_rfl) (by kernel_rfl) (by kernel_rfl) (by kernel_rfl) (by kernel_rfl) ?_
  dsimp only [inOrder, nthOp]
  replace hw := hw.drew
  replace fo := fo.d
  replace f := f.d
  replace f69 := f69.d
  refine wl_p (fun _ => o_move rfl) ?_
  refine wl_p (fun _ => o_nil rfl) ?_
  refine wl_p (fun _ => o_faddr (s := 85) (i := 1) (off := 1) Tryz.underlying85 rfl Tryz.sizeOf26 rfl rfl rfl) ?_
  refine wl_s (fun _ hk => (o_loadbg Tryz.isAgg26 rfl ((hB.u hw).u (below_of_grown_none hk)) (by rfl))) ?_
  refine wl_p (fun _ => o_move rfl) ?_
  refine wl_p (fun _ => o_nil rfl) ?_
  refine wl_p (fun _ => o_faddr (s := 85) (i := 3) (off := 3) Tryz.underlying85 rfl Tryz.sizeOf52 rfl rfl rfl) ?_
  refine wl_r (o_loadbg Tryz.isAgg52 rfl f (by rfl)) ?_
  refine wl_p (fun _ => o_move rfl) ?_
  refine wl_p (fun _ => o_nil rfl) ?_
  refine wl_p (fun _ => o_faddr (s := 85) (i := 2) (off := 2) Tryz.underlying85 rfl Tryz.sizeOf3 rfl rfl rfl) ?_
  refine wl_r (o_loadbg Tryz.isAgg3 rfl (hB.u hw) (by rfl)) ?_
  refine wl_p (fun _ => o_move rfl) ?_
  refine wl_call rfl (C_jFirstB _ rfl rfl hn0 (by omega) (by omega)) ?_ (hq := .inr fun _ _ h => grown_of_below h.2 _)
  rintro v82 w82 ⟨rfl, b82⟩
  simp only [drew_size] at b82
  have s82 := b82.size
  simp only [drew_size] at s82
  replace hw := hw.trans (b82.mono hw.size)
  replace f69 := f69.u b82
  replace f := f.u b82
  replace fo := fo.u b82
  rw [List.take_of_length_le (Nat.le_refl _), hTW] at f69
  have hcg : Chg dl dh w w82 := Chg.of_below hw
  have hd2 := hd.u hw
  have hB2 := hB.u hw
  have sw82 := hw.size
  clear hw hd hB
  have hd := hd2
  have hB := hB2
  clear hd2 hB2
  refine wl_call rfl (C_jWriteH (M := a) (n := n0) _ hd f69.top hTl h1 rfl (by omega) (by omega) (.inr (by omega)) (by omega) (by omega) (by omega)) ?_
  rintro _ w84 ⟨rfl, hd84, b84⟩
  have sb84 := b84.size
  replace hcg := hcg.trans (b84.wide (by omega) (by omega))
  replace hB := hB.c b84 (by omega)
  replace fo := fo.c b84 (by omega)
  replace f := f.c b84 (by omega)
  replace f69 := f69.c b84 (by omega)
  clear hd
  refine wl_nild ?_
  refine rk_seq ?_
  refine rk_region ?_
  refine wl_p (fun _ => o_move rfl) ?_
  refine wl_p (fun _ => o_nil rfl) ?_
  refine wl_p (fun _ => o_faddr (s := 85) (i := 1) (off := 1) Tryz.underlying85 rfl Tryz.sizeOf26 rfl rfl rfl) ?_
  refine wl_r (o_loadbg Tryz.isAgg26 rfl hB (by rfl)) ?_
  refine wl_call rfl (C_dFlush _ hd84 h3 h4) ?_
  rintro v89 w89 ⟨rfl, ⟨f89, g89⟩⟩
  have s89 := g89.size
  replace hcg := hcg.trans (g89.wide (by omega) (by omega))
  replace f69 := f69.c g89 (by omega)
  replace f := f.c g89 (by omega)
  replace fo := fo.c g89 (by omega)
  replace hB := hB.c g89 (by omega)
  clear hd84
  refine wl_nil ?_
  refine rk_seq ?_
  refine rk_draw (id := 12) (none) [0, 1, 2, 4, 0, 16, 32, 64, 128, 256, 0, 1024, 2048, 4096, 0, 16384, 32768, 65536, 139264, 262664] [0, 1, 3, 7, 0, 16, 48, 112, 240, 496, 0, 1024, 3072, 7168, 0, 16384, 49152, 114688, 261120, 524287] 786432 262144 [(.p, 0), (.p, 1), (.p, 2), (.s, 3), (.p, 4), (.p, 5), (.p, 6), (.s, 7), (.p, 8), (.p, 9), (.p, 10), (.p, 11), (.p, 12), (.r, 13), (.p, 14), (.p, 15), (.p, 16), (.r, 17), (.c, 18), (.l, 19)] (by kernel_rfl) (by kernel_rfl) (by kernel_rfl) (by kernel_rfl) (by kernel_rfl) ?_
  replace hcg := hcg.trans Chg.drew
  replace hB := hB.d
  replace fo := fo.d
  replace f := f.d
  replace f69 := f69.d
  replace f89 := f89.d
  refine wl_p (fun _ => o_move rfl) ?_
  refine wl_p (fun _ => o_nil rfl) ?_
  refine wl_p (fun _ => o_faddr (s := 85) (i := 1) (off := 1) Tryz.underlying85 rfl Tryz.sizeOf26 rfl rfl rfl) ?_
  refine wl_s (fun _ hk => (o_loadbg Tryz.isAgg26 rfl (hB.u (below_of_grown_none hk)) (by rfl))) ?_
  refine wl_p (fun _ => o_move rfl) ?_
  refine wl_p (fun _ => o_nil rfl) ?_
  refine wl_p (fun _ => o_faddr (s := 85) (i := 3) (off := 3) Tryz.underlying85 rfl Tryz.sizeOf52 rfl rfl rfl) ?_
  refine wl_s (fun _ hk => (o_loadbg Tryz.isAgg52 rfl (f.u (below_of_grown_none hk)) (by rfl))) ?_
  refine wl_p (fun _ => o_remu rfl rfl (by omega) (by omega)) ?_
  refine wl_p (fun _ => o_convi64 (src := 52) (dst := 3) Tryz.underlying52 Tryz.underlying3 rfl (by omega) (by omega)) ?_
  refine wl_p (fun _ => o_move rfl) ?_
  refine wl_p (fun _ => o_nil rfl) ?_
  refine wl_p (fun _ => o_faddr (s := 85) (i := 3) (off := 3) Tryz.underlying85 rfl Tryz.sizeOf52 rfl rfl rfl) ?_
  refine wl_r (o_loadbg Tryz.isAgg52 rfl f (by rfl)) ?_
  refine wl_p (fun _ => o_move rfl) ?_
  refine wl_p (fun _ => o_nil rfl) ?_
  refine wl_p (fun _ => o_faddr (s := 85) (i := 2) (off := 2) Tryz.underlying85 rfl Tryz.sizeOf3 rfl rfl rfl) ?_
  refine wl_r (o_loadbg Tryz.isAgg3 rfl hB (by rfl)) ?_
  refine wl_call rfl (C_headBytes _ rfl rfl hhb (by omega) (by omega)) ?_ (hq := .inr fun _ _ h => grown_of_below h.choose_spec.choose_spec.2.2.2 _)
  rintro v108 w108 ⟨A108, ⟨c108, ⟨rfl, ⟨f108, ⟨e108, b108⟩⟩⟩⟩⟩
  simp only [drew_size] at f108
  simp only [drew_size] at b108
  have qf108 := f108.cap
  have s108 := b108.size
  simp only [drew_size] at s108
  replace hcg := hcg.thenB b108
  replace f89 := f89.u b108
  replace f69 := f69.u b108
  replace f := f.u b108
  replace fo := fo.u b108
  replace hB := hB.u b108
  have sz0 := hcg.size
  have hHl : hx.length = 256 * 1 := by rw [← hhb, headB_len]
  refine wl_call rfl (C_jWriteH (M := 1) (n := e1 % 2) _ f89 f108.top hHl h5 (by omega) (by omega) (by omega) (.inr (by omega)) (by omega) (by omega) (by omega)) ?_
  rintro _ w109 ⟨rfl, hd109, b109⟩
  have sb109 := b109.size
  replace hcg := hcg.trans (b109.wide (by omega) (by omega))
  replace hB := hB.c b109 (by omega)
  replace fo := fo.c b109 (by omega)
  replace f := f.c b109 (by omega)
  replace f69 := f69.c b109 (by omega)
  replace f108 := f108.c b109 (by omega)
  clear f89
  refine wl_nild ?_
  refine rk_seq ?_
  refine rk_region ?_
  refine wl_p (fun _ => o_move rfl) ?_
  refine wl_p (fun _ => o_nil rfl) ?_
  refine wl_p (fun _ => o_faddr (s := 85) (i := 1) (off := 1) Tryz.underlying85 rfl Tryz.sizeOf26 rfl rfl rfl) ?_
  refine wl_r (o_loadbg Tryz.isAgg26 rfl hB (by rfl)) ?_
  refine wl_call rfl (C_dFlush _ hd109 h6 h4b) ?_
  rintro v114 w114 ⟨rfl, ⟨f114, g114⟩⟩
  have s114 := g114.size
  replace hcg := hcg.trans (g114.wide (by omega) (by omega))
  replace f108 := f108.c g114 (by omega)
  replace f69 := f69.c g114 (by omega)
  replace f := f.c g114 (by omega)
  replace fo := fo.c g114 (by omega)
  replace hB := hB.c g114 (by omega)
  clear hd109
  refine wl_nil ?_
  refine rk_seq ?_
  refine rk_region ?_
  refine wl_p (fun _ => o_move rfl) ?_
  refine wl_p (fun _ => o_move rfl) ?_
  refine wl_p (fun _ => o_nil rfl) ?_
  refine wl_p (fun _ => o_faddr (s := 85) (i := 0) (off := 0) Tryz.underlying85 rfl Tryz.sizeOf31 rfl rfl rfl) ?_
  refine wl_stJself rfl f rfl hn32 ?_
  rintro w_2 f_1 g_2 e_2
  have s_2 := g_2.size
  replace hcg := hcg.andNew g_2.g (fun _ e => by injection e with e; have := hcg.size; omega)
  replace hB := hB.k g_2.g (ap_some (by omega))
  replace fo := fo.y g_2 (by decide)
  replace f69 := f69.y g_2 (by decide)
  replace f108 := f108.y g_2 (by decide)
  replace f114 := f114.k g_2.g (ap_some (by omega))
  clear f
  refine wl_nil ?_
  have keep : ∀ W', Grew w_2 W' 85 (some g) → ∃ w1, Chg dl dh w w1 ∧ Grew w1 W' 85 (some g) := fun W' h => ⟨_, hcg, h⟩
  refine rk_region ?_
  refine wl_p (fun _ => o_move rfl) ?_
  refine wl_p (fun _ => o_move rfl) ?_
  refine wl_p (fun _ => o_nil rfl) ?_
  refine wl_r (o_ldJ rfl f_1 hn32) ?_
  refine wl_p (fun _ => o_nil rfl) ?_
  refine wl_stJ rfl rfl hn32 hB hch ?_
  rintro w_3 f g_3 e_3
  have s_3 := g_3.size
  replace f114 := f114.k g_3.g (ap_some (by omega))
  replace f108 := f108.k g_3.g (ap_some (by omega))
  replace f69 := f69.k g_3.g (ap_some (by omega))
  replace fo := fo.k g_3.g (ap_some (by omega))
  replace f_1 := f_1.k g_3.g (ap_some (by omega))
  clear hB
  refine wl_nil ?_
  refine end0 rfl ?_
  exact ⟨rfl, _, _, f, fo.top, f114, keep _ (by assumption)⟩
end Go.Proofs.YtnnhenafhalobaaGreat
/-
  Walks of package journal: Records, Switch; plain laws of records in an area.
-/
namespace Go.Proofs.YtnnhenafhalobaaGreat
set_option maxRecDepth 100000
open Go.RowKit
theorem readR_zeros (d : By) (n : Nat) : (readR d (List.replicate n 0)).2.2.2 ≠ 0 := fun h0 => by
  obtain ⟨⟨r, z, x, e⟩, hr⟩ : ∃ s, readR d (List.replicate n 0) = s := ⟨_, rfl⟩
  rw [hr] at h0
  simp only at h0
  subst h0
  obtain ⟨h1, _, _, q, h4⟩ := readR_back hr
  apply h1.1
  have h5 : (List.replicate n (0 : UInt8)) = r.1 :: (blkB r.2 ++ (nextB d r).take 8 ++ q) := by rw [h4, bytesR, bodyB]; simp
  have h6 : r.1 ∈ List.replicate n (0 : UInt8) := by rw [h5]; simp
  exact (List.mem_replicate.1 h6).2
theorem AllP.zeros {c : By} {R : List Rc} (n : Nat) (hO : ∀ r ∈ R, OkR r) : AllP c (bytesAll c R ++ List.replicate n 0) R := ⟨_, rfl, hO, readR_zeros _ _⟩
theorem allR_own {c : By} {R : List Rc} (hO : ∀ r ∈ R, OkR r) : allR c (bytesAll c R) = R := by
  have := (AllP.zeros (c := c) 0 hO).eq
  rwa [List.replicate_zero, List.append_nil] at this
theorem allR_len {c b : By} : (bytesAll c (allR c b)).length ≤ b.length := by
  obtain ⟨q, h1, _, _⟩ := AllP.fun (c := c) (b := b)
  conv => rhs; rw [h1, List.length_append]
  omega
theorem allR_ok {c b : By} : ∀ r ∈ allR c b, OkR r := by
  obtain ⟨q, _, h, _⟩ := AllP.fun (c := c) (b := b)
  exact h
theorem C_AllXN {A : Option Addr} {b c ch : By} {L : List Rc} {n nb cap : Nat} (w : World) (hr : allR c b = L) (h1 : (bytesAll c L).length = nb) (h2 : chainAll c L = ch) (hb : Rd w A b) (hn : n = b.length) (hcap : b.length ≤ cap) (hc : c.length = 32) (hl : b.length ≤ 400000) :
    CallsR Tryz.prog 54 [.agg (B8 c).toArray, .slice A n cap] w fun v w' => ∃ (A' : Option Addr) (c' : Nat), v = .tuple #[.slice A' L.length c', .int .i64 (nb : Int), .agg (B8 ch).toArray] ∧ OwnRecX (fun k => w.heap.size ≤ k) w' w.heap.size w'.heap.size A' c' L ∧ Below w.heap.size w w' := by
  refine (K_AllX w hb hn hcap hc hl).mono ?_
  rintro v w' ⟨L', A', c', rfl, hA, hO, hw⟩
  obtain rfl : L = L' := by rw [← hr]; exact hA.eq
  rw [h1, h2]
  exact ⟨A', c', rfl, hO, hw⟩
--@ hide C_AllN
--@ hide C_AllR
set_option maxRecDepth 100000 in
theorem C_jRecords {g c lo hi e : Nat} {d L : Option Addr} {a k s : Int} {ch b : By} {u : D32} {R : List Rc} (w : World) (hB : Blk w g 85 (jC (some ⟨g, 0, none⟩) d a e L b.length c b.length ch k s)) (hL : OwnH w lo hi L c b) (hb : bytesAll u.1 R = b) (hch : ch.length = 32) (he : e < 18446744073709551616) (hu : sumB [wB8 e] = u.1) (hRo : ∀ r ∈ R, OkR r) (hbl : b.length ≤ 100000) :
    CallsR Tryz.prog 18 [.pointer (some ⟨g, 0, none⟩)] w fun v w' => ∃ A' c', v = .slice A' R.length c' ∧ OwnRecX (fun k => w.heap.size ≤ k) w' w.heap.size w'.heap.size A' c' R ∧ Below w.heap.size w w' := by
  have hR : allR u.1 b = R := by rw [← hb]; exact allR_own hRo
  have hu32 := u.2
  obtain ⟨nx, hnx⟩ : ∃ nx, chainAll u.1 R = nx := ⟨_, rfl⟩
  have hn32 : nx.length = 32 := by rw [← hnx]; exact chainAll_len hu32 _
  obtain ⟨nb, hnb⟩ : ∃ nb, (bytesAll u.1 R).length = nb := ⟨_, rfl⟩
  have hcp := hL.cap
  refine callsR Tryz.func18 rfl rfl (by kernel_rfl) rfl ?_
  have hw := Below.refl w.heap.size w
  refine rk_seq ?_
  refine rk_region ?_
  refine wl_p (fun _ => o_assign rfl) ?_
  refine wl_nil ?_
  refine rk_seq ?_
  refine rk_seq ?_
  refine rk_region ?_
  refine wl_p (fun _ => o_move rfl) ?_
  refine wl_call rfl (C_jValid _ hB) ?_
  rintro v7 w7 ⟨rfl, rfl⟩
  refine wl_p (fun _ => o_not rfl) ?_
  refine wl_nil ?_
  refine rk_false rfl ?_
  refine rk_skip ?_
  refine rk_seq ?_
  refine rk_drawo (id := 3) (none) [0, 1, 2, 4, 8, 0, 32, 64, 128, 0, 512, 1024, 2048, 4352, 8208, 16384, 32768, 32768, 32768, 0, 655359, 1835007, 4194303] [0, 1, 3, 7, 15, 0, 32, 96, 224, 0, 512, 1536, 3584, 8160, 16383, 32767, 65535, 65535, 65535, 0, 655359, 1835007, 4194303] 4734992 524304 [0, 1, 2, 3, 5, 6, 7, 8, 9, 10, 11, 12, 13] [(.p, 0), (.p, 1), (.p, 2), (.s, 3), (.p, 5), (.p, 6), (.p, 7), (.s, 8), (.p, 9), (.p, 10), (.p, 11), (.s, 12), (.p, 13), (.f 16367 4734992 524304, 10)] (by kernel_rfl) (by kernel_rfl) (by kernel_rfl) (by kernel_rfl) (by kernel_rfl) ?_
  dsimp only [inOrder, nthOp]
  replace hw := hw.drew
  refine wl_p (fun _ => o_move rfl) ?_
  refine wl_p (fun _ => o_nil rfl) ?_
  refine wl_p (fun _ => o_faddr (s := 85) (i := 3) (off := 3) Tryz.underlying85 rfl Tryz.sizeOf52 rfl rfl rfl) ?_
  refine wl_s (fun _ hk => (o_loadbg Tryz.isAgg52 rfl ((hB.u hw).u (below_of_grown_none hk)) (by rfl))) ?_
  refine wl_p (fun _ => o_move rfl) ?_
  refine wl_p (fun _ => o_nil rfl) ?_
  refine wl_p (fun _ => o_faddr (s := 85) (i := 4) (off := 4) Tryz.underlying85 rfl Tryz.sizeOf35 rfl rfl rfl) ?_
  refine wl_s (fun _ hk => (o_loadbg Tryz.isAgg35 rfl ((hB.u hw).u (below_of_grown_none hk)) (by rfl))) ?_
  refine wl_p (fun _ => o_move rfl) ?_
  refine wl_p (fun _ => o_nil rfl) ?_
  refine wl_p (fun _ => o_faddr (s := 85) (i := 5) (off := 5) Tryz.underlying85 rfl Tryz.sizeOf80 rfl rfl rfl) ?_
  refine wl_s (fun _ hk => (o_loadbg Tryz.isAgg80 rfl ((hB.u hw).u (below_of_grown_none hk)) (by rfl))) ?_
  refine wl_slBh Tryz.u8 (List.length b) rfl rfl (hL.u hw).to_Rd rfl rfl (by omega) (by omega) ?_
  rintro f23
  rw [List.take_of_length_le (Nat.le_refl _)] at f23
  refine wl_conc [⟨4, [], [14], [], fun vs w' lo hi => vs = [.agg (B8 u.1).toArray]⟩, ⟨14, [(.p, 15), (.p, 16), (.p, 17), (.p, 18)], [27, 26, 25, 9, 24], [0], fun vs w' lo hi => ∃ (A24 : Option Addr) (c24 : Nat) (u9 u24 : Value), vs = [.agg (B8 nx).toArray, .int .i64 (nb : Int), .slice A24 R.length c24, u9, u24] ∧ OwnRecX (fun k => w7.heap.size ≤ k) w' lo hi A24 c24 R⟩, ⟨19, [], [5], [], fun vs w' lo hi => ∃ (g5 : Nat), vs = [.pointer (some ⟨g5, 0, none⟩)] ∧ Blk w' g5 64 (B8 nul32) ∧ lo ≤ g5 ∧ g5 < hi⟩] [0, 1, 2] [0, 1, 2, 4, 8, 0, 32, 64, 128, 0, 512, 1024, 2048, 4352, 8208, 16384, 32768, 32768, 32768, 0, 655359, 1835007, 4194303] [0, 1, 3, 7, 15, 0, 32, 96, 224, 0, 512, 1536, 3584, 8160, 16383, 32767, 65535, 65535, 65535, 0, 655359, 1835007, 4194303] [20, 21, 22] [(.p, 20), (.p, 21), (.l, 22)] (by kernel_rfl) (by kernel_rfl) (by kernel_rfl) (by kernel_rfl) ⟨fun _ _ _ _ _ h _ => h, fun _ _ _ _ _ h hb => by obtain ⟨A24, c24, u9, u24, e0, g0⟩ := h; exact ⟨A24, c24, u9, u24, e0, g0.u hb⟩, fun _ _ _ _ _ h hb => by obtain ⟨g5, e0, g0, g1, g2⟩ := h; exact ⟨g5, e0, g0.u hb, g1, g2⟩, trivial⟩ ⟨?_, ?_, ?_, trivial⟩ ?_
  · intro wI hbI fo T T2 n2
    intro hk
    dsimp only [Item.idx, inOrder, nthOp, List.map, List.zip_cons_cons, List.zip_nil_right, List.cons_append, List.nil_append]
    have shbI := hbI.size
    simp only [drew_size] at shbI
    replace hw := hw.trans (hbI.mono hw.size)
    replace f23 := f23.u hbI
    have hw1 := Below.refl wI.heap.size wI
    refine wl_call rfl (C_First _ rfl (by omega) hu) ?_ (hq := .inr fun _ _ h => grown_of_below h.2 _)
    rintro v14 w14 ⟨rfl, b14⟩
    have s14 := b14.size
    replace hw := hw.trans (b14.mono hw.size)
    replace hw1 := hw1.trans (b14.mono hw1.size)
    replace f23 := f23.u b14
    exact hk [_] _ rfl hw1
  · intro wI hbI fo T T2 n2
    rintro _ lo0 hi0 ⟨rfl⟩ ql0 qm0 qh0 -
    try dsimp only at ql0 qm0 qh0 
    try simp only [drew_size] at ql0 qm0 qh0 
    intro hk
    dsimp only [Item.idx, inOrder, nthOp, List.map, List.zip_cons_cons, List.zip_nil_right, List.cons_append, List.nil_append]
    have shbI := hbI.size
    simp only [drew_size] at shbI
    replace hw := hw.trans (hbI.mono hw.size)
    replace f23 := f23.u hbI
    have hw1 := Below.refl wI.heap.size wI
    refine wl_call rfl (C_AllXN _ hR hnb hnx f23 rfl (by omega) hu32 (by omega)) ?_
    rintro v24 w24 ⟨A24, ⟨c24, ⟨rfl, ⟨f24, b24⟩⟩⟩⟩
    have qf24 := f24.cap
    have s24 := b24.size
    replace hw := hw.trans (b24.mono hw.size)
    replace hw1 := hw1.trans (b24.mono hw1.size)
    replace f23 := f23.u b24
    refine wl_p (fun _ => o_move rfl) ?_
    refine wl_p (fun _ => o_ext30 rfl) ?_
    refine wl_p (fun _ => o_ext31 rfl) ?_
    refine wl_p (fun _ => o_ext32 rfl) ?_
    exact hk [_, _, _, _, _] _ ⟨_, _, _, _, rfl, f24.re (fun k h => by omega)⟩ hw1
  · intro wI hbI fo T T2 n2
    intro hk
    dsimp only [Item.idx, inOrder, nthOp, List.map, List.zip_cons_cons, List.zip_nil_right, List.cons_append, List.nil_append]
    have shbI := hbI.size
    simp only [drew_size] at shbI
    replace hw := hw.trans (hbI.mono hw.size)
    replace f23 := f23.u hbI
    have hw1 := Below.refl wI.heap.size wI
    refine wl_allocB Tryz.underlying64 Tryz.zeroValue64 (by rfl) ?_
    rintro g5 w5 f5 b5 i5 i5_1
    have s5 := b5.size
    replace hw := hw.trans (b5.mono hw.size)
    replace hw1 := hw1.trans (b5.mono hw1.size)
    replace f23 := f23.u b5
    exact hk [_] _ ⟨_, rfl, f5, by omega, by omega⟩ hw1
  intro wE hbE
  rintro _ lo0 hi0 ⟨rfl⟩ ql0 qm0 qh0 -
  rintro _ lo1 hi1 ⟨A24, c24, u9, u24, rfl, f24⟩ ql1 qm1 qh1 ⟨qa1_0, -⟩
  rintro _ lo2 hi2 ⟨g5, rfl, f5, f5_1, f5_2⟩ ql2 qm2 qh2 ⟨qa2_1, qa2_0, -⟩
  try dsimp only at ql0 qm0 qh0  ql1 qm1 qh1 qa1_0 ql2 qm2 qh2 qa2_0 qa2_1
  try simp only [drew_size] at ql0 qm0 qh0  ql1 qm1 qh1 qa1_0 ql2 qm2 qh2 qa2_0 qa2_1
  dsimp only [given, Item.idx, inOrder, nthOp, List.map, List.zip_cons_cons, List.zip_nil_right]
  have shbE := hbE.size
  simp only [drew_size] at shbE
  replace hw := hw.trans (hbE.mono hw.size)
  replace f23 := f23.u hbE
  have hcE : Chg lo1 hi1 wE wE := Chg.refl
  refine wl_p (fun _ => o_assign rfl) ?_
  refine wl_p (fun _ => o_assign rfl) ?_
  refine wl_stBa Tryz.sizeOf64 rfl f5 rfl hn32 (by rfl) ?_
  rintro w f g_1 e_1
  have s_1 := g_1.size
  replace hw := hw.trans (below_of_grownBy g_1.g hw.size (by omega))
  replace f24 := f24.y g_1 (by decide)
  clear f23
  clear f5
  refine wl_nild ?_
  refine rk_seq ?_
  refine rk_region ?_
  refine wl_p (fun _ => o_move rfl) ?_
  refine wl_p (fun _ => o_assign rfl) ?_
  refine wl_nil ?_
  have szE := hcE.size
  refine ret1 rfl rfl ?_
  exact ⟨_, _, rfl, f24.base (by omega) (by omega), hw⟩
theorem szR_succ : ∀ (R : List Rc) {i : Nat} (hi : i < R.length), szR (R.take (i + 1)) = szR (R.take i) + ((bodyB R[i]).length + 8)
  | r :: R, 0, _ => by simp [szR]
  | r :: R, i + 1, h => by
    have := szR_succ R (i := i) (by simpa using h)
    simp only [List.take_succ_cons, szR, List.getElem_cons_succ, this]
    omega
theorem szR_le : ∀ (R : List Rc) (i : Nat), szR (R.take i) ≤ szR R
  | [], _ => by simp
  | r :: R, 0 => by simp [szR]
  | r :: R, i + 1 => by
    have := szR_le R i
    simp only [List.take_succ_cons, szR]
    omega
theorem C_CheckGood {k : UInt8} {x : Int} {A : Option Addr} {p : By} {n c : Nat} (w : World) (hk : x = (k.toNat : Int)) (hO : OkR (k, p)) (hn : n = p.length) :
    CallsR Tryz.prog 56 [.agg #[.int .u8 x, .slice A n c]] w fun v w' => v = .int .i64 0 ∧ Below w.heap.size w w' := by
  refine (C_CheckZ w hk hn).mono ?_
  rintro v w' ⟨z, rfl, h1, h2, h3⟩
  rw [h2.2 hO]
  exact ⟨rfl, h3⟩
--@ hide C_CheckZ
--@ hide C_Check
--@ hide C_CheckBad
set_option maxRecDepth 100000 in
set_option maxHeartbeats 4000000 in
theorem K_jSwitch {dl dh gd g a e c n n0 c0 nr e1 : Nat} {t k s : Int} {S S1 S2 : List Sec} {C Ca Cb C1 : List (Option Sec)} {L A : Option Addr} {ch b ZA TW hx nx : By} {u : D32} {R : List Rc} (w : World) (hd : DkAt w dl dh gd S C) (hB : Blk w g 85 (jC (some ⟨g, 0, none⟩) (some ⟨gd, 0, none⟩) a e L n c t ch k s)) (hch : ch.length = 32) (hR : RRec w A R) (hnr : nr = R.length) (hRo : ∀ r ∈ R, OkR r) (ha : 1 ≤ a ∧ a ≤ 256) (he : e < 18446744073709551616) (he1 : (e + 1) % 18446744073709551616 = e1) (hu : sumB [wB8 e1] = u.1) (hb : bytesAll u.1 R = b) (hnx : chainAll u.1 R = nx) (hfit : b.length ≤ a * 256) (hsz : 2 + 2 * a ≤ S.length) (hgd : g < dl ∨ dh ≤ g) (hn0 : 2 + e1 % 2 * a = n0) (hZA : List.replicate (a * 256) 0 = ZA) (hTW : overJ ZA 0 b = TW) (hhb : headB e1 a = hx) (h1 : wrs C n0 (secsN a TW) = Ca) (h3 : cur S Ca = S1) (h4 : List.replicate S.length none = C1) (h5 : wrs C1 (e1 % 2) (secsN 1 hx) = Cb) (h6 : cur S1 Cb = S2) :
    CallsR Tryz.prog 19 [.pointer (some ⟨g, 0, none⟩), .slice A nr c0] w fun v w' => v = .int .i64 0 ∧ ∃ L' c', Blk w' g 85 (jC (some ⟨g, 0, none⟩) (some ⟨gd, 0, none⟩) a e1 L' b.length c' b.length nx nr nr) ∧ OwnH w' w.heap.size w'.heap.size L' c' b ∧ DkAt w' dl dh gd S2 C1 ∧ ∃ w1, Chg dl dh w w1 ∧ Grew w1 w' 85 (some g) := by
  subst hnr
  have hgw := hB.lt
  have hbz : b.length = szR R := by rw [← hb, bytesAll_sz]
  have hzr : szR R ≤ 65536 := by omega
  have hRl : R.length ≤ 65536 := by have := bytesAll_ge u.1 R; rw [hb] at this; omega
  refine callsR Tryz.func19 rfl rfl (by kernel_rfl) rfl ?_
  have hw := Below.refl w.heap.size w
  refine rk_seq ?_
  refine rk_region ?_
  refine wl_p (fun _ => o_assign rfl) ?_
  refine wl_nil ?_
  refine rk_seq ?_
  refine rk_seq ?_
  refine rk_region ?_
  refine wl_p (fun _ => o_move rfl) ?_
  refine wl_call rfl (C_jValid _ hB) ?_
  rintro v10 w10 ⟨rfl, rfl⟩
  refine wl_p (fun _ => o_not rfl) ?_
  refine wl_nil ?_
  refine rk_false rfl ?_
  refine rk_skip ?_
  refine rk_seq ?_
  refine rk_region ?_
  refine wl_p (fun _ => o_assign rfl) ?_
  refine wl_nil ?_
  refine rk_seq ?_
  refine rk_seq ?_
  refine rk_region ?_
  refine wl_p (fun _ => o_move rfl) ?_
  refine wl_p (fun _ => o_len (t := 44) Tryz.underlying44 rfl) ?_
  refine wl_p (fun _ => o_move rfl) ?_
  refine wl_nil ?_
  refine rk_block ?_
  obtain ⟨w, hww⟩ : ∃ w, w = w10 := ⟨_, rfl⟩
  subst hww
  refine rk_joinf (fun fb fr W => fr = [(5, .int .i64 (szR R : Nat))] ++ fb.drop 8 ∧ Below w.heap.size w W) ?_ (fun ks hj => ?_)
  rotate_left
  · refine rk_loopf (fun fb m fr W => ∃ (i : Nat) (v z : Int), fr = [(14, .int .i64 v), (13, .int .i64 R.length), (12, .slice A R.length c0), (5, .int .i64 z)] ++ fb.drop 8 ∧ v = i ∧ i ≤ R.length ∧ m = R.length - i ∧ z = (szR (R.take i) : Nat) ∧ Below w.heap.size w W) (n := R.length) (Fr.le_of (by kernel_rfl) (by kernel_rfl) (by repeat' constructor)) ⟨0, _, _, rfl, rfl, by omega, rfl, rfl, hw⟩ ?_
    clear hw
    rintro m fr W ⟨i, v, z, rfl, rfl, hi, rfl, rfl, hw⟩
    have shw := hw.size
    first | refine rk_frame (by simp only [List.cons_append, List.nil_append, List.drop_succ_cons, List.drop_zero]; rfl) ?_ | refine wl_frame (by simp only [List.cons_append, List.nil_append, List.drop_succ_cons, List.drop_zero]; rfl) ?_
    by_cases hil : i < R.length
    · have hO := hRo _ (List.getElem_mem hil)
      have hpl := hO.2
      have hzs := szR_succ R hil
      have hzl := szR_le R (i + 1)
      obtain ⟨y, hy⟩ : ∃ y, (bodyB R[i]).length + 8 = y := ⟨_, rfl⟩
      rw [hy] at hzs
      refine rk_seq ?_
      refine rk_region ?_
      refine wl_p (fun _ => o_lt rfl rfl) ?_
      refine wl_nil ?_
      refine rk_seq ?_
      refine rk_if rfl (fun h15 => ?_) (fun h15 => h15.elim (by omega))
      refine rk_skip ?_
      refine rk_seq ?_
      refine rk_block ?_
      refine rk_seq ?_
      refine rk_region ?_
      refine wl_p (fun _ => (o_iaddrA (i) Tryz.underlying44 Tryz.sizeOf37 rfl rfl rfl (hR.some_ (by omega)) (by omega))) ?_
      refine wl_ldRec rfl hR hw (by omega) ?_
      rintro A117 c117 f17 i17 i17_1
      refine wl_allocg [_, _] Tryz.zeroValue37 (by rfl) ?_
      rintro g7 w7 f7 b7 i7 i7_1
      have s7 := b7.size
      replace hw := hw.trans (b7.mono hw.size)
      refine wl_storega Tryz.sizeOf37 rfl rfl (by rfl) (oneCell_of (by rfl)) f7 (by rfl) ?_
      rintro w_1 f g_1 e_1
      have s_1 := g_1.size
      replace hw := hw.trans (below_of_grownBy g_1.g hw.size (by omega))
      clear f7
      refine wl_nil ?_
      refine rk_seq ?_
      refine rk_seq ?_
      refine rk_region ?_
      refine wl_r (o_loadag Tryz.isAgg37 Tryz.sizeOf37 rfl f (by rfl)) ?_
      refine wl_call rfl (C_CheckGood _ (by rfl) hO rfl) ?_
      rintro v19 w19 ⟨rfl, b19⟩
      have s19 := b19.size
      replace hw := hw.trans (b19.mono hw.size)
      replace f := f.u b19
      refine wl_p (fun _ => o_assign rfl) ?_
      refine wl_nil ?_
      refine rk_seq ?_
      refine rk_region ?_
      refine wl_p (fun _ => o_move rfl) ?_
      refine wl_p (fun _ => o_ne rfl rfl) ?_
      refine wl_nil ?_
      refine rk_false rfl ?_
      refine rk_skip ?_
      refine rk_region ?_
      refine wl_p (fun _ => o_move rfl) ?_
      refine wl_r (o_loadag Tryz.isAgg37 Tryz.sizeOf37 rfl f (by rfl)) ?_
      refine wl_call rfl (C_SizeOk _ (f17.u hw) (by rfl) hy (by omega) rfl (by omega)) ?_
      rintro v25 w25 ⟨rfl, b25⟩
      have s25 := b25.size
      replace hw := hw.trans (b25.mono hw.size)
      replace f := f.u b25
      refine wl_p (fun _ => o_add rfl rfl (by omega) (by omega)) ?_
      refine wl_p (fun _ => o_assign rfl) ?_
      refine wl_nil ?_
      refine rk_blk ?_
      refine rk_region ?_
      refine wl_p (fun _ => o_add rfl rfl (by omega) (by omega)) ?_
      refine wl_p (fun _ => o_move rfl) ?_
      refine wl_nil ?_
      exact rk_againf (Fr.le_of (by kernel_rfl) (by kernel_rfl) (by repeat' constructor)) ⟨i + 1, (i : Int) + 1, _, rfl, by omega, by omega, rfl, by omega, hw⟩ (by omega)
    · refine rk_seq ?_
      refine rk_region ?_
      refine wl_p (fun _ => o_lt rfl rfl) ?_
      refine wl_nil ?_
      refine rk_seq ?_
      refine rk_if rfl (fun h15 => absurd h15 (by omega)) (fun h15 => ?_)
      refine rk_exit rfl ?_
      obtain rfl : i = R.length := by omega
      rw [List.take_length]
      exact rk_tof hj (Fr.le_of (by kernel_rfl) (by kernel_rfl) (by repeat' constructor)) ⟨rfl, hw⟩
  clear hw
  rintro fr W ⟨rfl, hw⟩
  have shw := hw.size
  first | refine rk_frame (by simp only [List.cons_append, List.nil_append, List.drop_succ_cons, List.drop_zero]; rfl) ?_ | refine wl_frame (by simp only [List.cons_append, List.nil_append, List.drop_succ_cons, List.drop_zero]; rfl) ?_
  refine rk_seq ?_
  refine rk_seq ?_
  refine rk_region ?_
  refine wl_p (fun _ => o_move rfl) ?_
  refine wl_p (fun _ => o_move rfl) ?_
  refine wl_p (fun _ => o_nil rfl) ?_
  refine wl_p (fun _ => o_faddr (s := 85) (i := 2) (off := 2) Tryz.underlying85 rfl Tryz.sizeOf3 rfl rfl rfl) ?_
  refine wl_r (o_loadbg Tryz.isAgg3 rfl (hB.u hw) (by rfl)) ?_
  refine wl_call rfl (C_jStart _ (by omega)) ?_
  rintro v33 w33 ⟨rfl, b33⟩
  have s33 := b33.size
  replace hw := hw.trans (b33.mono hw.size)
  refine wl_p (fun _ => o_gt rfl rfl) ?_
  refine wl_nil ?_
  refine rk_if rfl (fun h34 => absurd h34 (by omega)) (fun h34 => ?_)
  refine rk_skip ?_
  refine rk_seq ?_
  refine rk_region ?_
  refine wl_p (fun _ => o_move rfl) ?_
  refine wl_p (fun _ => o_move rfl) ?_
  have s33 := hw.size
  refine wl_call rfl (K_jChange _ (hd.u hw) (hB.u hw) hch (hR.u hw) rfl hRo ha he he1 hu hb hnx hfit hsz hgd hn0 hZA hTW hhb h1 h3 h4 h5 h6) ?_
  rintro _ w37 ⟨rfl, L', c', q1, q2, q3, w1, q4, q5⟩
  have q6 := (Chg.of_below hw).trans q4
  have q7 := q2.base s33 (Nat.le_refl _)
  clear hw
  refine wl_nil ?_
  refine rk_seq ?_
  refine rk_region ?_
  refine wl_p (fun _ => o_assign rfl) ?_
  refine wl_nil ?_
  refine ret1 rfl rfl ?_
  exact ⟨rfl, _, _, q1, q7, q3, w1, q6, q5⟩
end Go.Proofs.YtnnhenafhalobaaGreat
