/-
  Walks of package net: the places of the envelopes to a node.
-/
import Derived.Test.YtaldpegegekbjaaNetH
import Derived.Test.YtaldpegegekbjaaRound
import Derived.Shelf.Abstract
namespace Go.Proofs.Ytaldpegegekbjaa
open Go.RowKit
def encI (x : Int) : Array Value := #[.int .i64 x]
/-- A row of the call's own, and what is no cells. -/
theorem ownZ_noncell {B lo hi c : Nat} {W W' : World} {A : Option Addr} {l : List Int} {row : Option Nat} (h : OwnZ W lo hi A c l) (hg : W.grownBy W' row) (hr : ∀ r, row = some r → B ≤ r ∧ ∃ o : Obj, W.heap[r]? = some o ∧ o.isCells = false) : OwnZ W' lo hi A c l :=
  ⟨World.ownsRow.kept h.o hg (by
    rw [blk_own]
    cases hA : blk A with
    | none => exact .inl rfl
    | some k =>
      refine .inr (fun ek => ?_)
      obtain ⟨_, o, ho, hc⟩ := hr k ek.symm
      obtain ⟨cs, f, hcs⟩ := RowH.ty h k hA
      rw [hcs] at ho
      injection ho with ho
      subst ho; cases hc), h.hi⟩
theorem eval_defers (a : Act) (ds : List Deferred) : ({ tmps := a.tmps, defers := ds } : Act).eval = a.eval := by
  funext x; cases x <;> rfl
theorem blk_noncell {B g : Nat} {W W' : World} {t : TypeId} {cs : List Value} {row : Option Nat} (h : Blk W g t cs) (hg : W.grownBy W' row) (hr : ∀ r, row = some r → B ≤ r ∧ ∃ o : Obj, W.heap[r]? = some o ∧ o.isCells = false) : Blk W' g t cs :=
  h.grown hg (fun e => by
    obtain ⟨_, o, ho, hc⟩ := hr g e.symm
    rw [show W.heap[g]? = _ from h] at ho
    injection ho with ho
    subst ho; cases hc)
set_option maxHeartbeats 1000000 in
theorem C_AppendSeq {gf : Nat} {lb : Array Value} {L : List Int} {w0 : World} (w : World) (hE : ∀ args w, (callFunc gf args).run Try.prog w = .ok (.enter gf args) w) (hS : SeqStopsK Fence.wide 2 Try.prog gf lb encI (Below w0.heap.size) (fun xs => xs = L) (fun _ => True) L.length w0) (hb : Below w0.heap.size w0 w) (hl : L.length ≤ 4000) :
    CallsR Try.prog 39 [.slice none 0 0, .func (.func gf) #[] lb] w fun v w' => ∃ A' c', v = .slice A' L.length c' ∧ OwnZ w' w.heap.size w'.heap.size A' c' L ∧ Below w.heap.size w w' := by
  refine ⟨⟨_, Try.func39, rfl, by kernel_rfl⟩, ?_⟩
  refine (callsIn_wide (n := 3)).1 (callsIn_of_wp_marks Try.func39 rfl trivial ?_)
  refine seq3_of_rk (fn := Try.f39) (I := fun a w' => ∃ g2, Rep Try.f39.ntmps a [(6, .func (.func gf) #[] lb), (2, .pointer (some ⟨g2, 0, none⟩))] ∧ Blk w' g2 51 [.slice none 0 0] ∧ w.heap.size ≤ g2 ∧ Below w.heap.size w w') (N := Try.f39.ntmps) (n := 3) ?_ (entry_rep rfl) ?_
  · have hw := Below.refl w.heap.size w
    refine rk_region ?_
    refine wl_boxg [_] rfl (by rfl) ?_
    rintro g2 w2 f2 b2 i2 i2_1
    have s2 := b2.size
    replace hw := hw.trans (b2.mono hw.size)
    refine wl_p (fun _ => o_assign rfl) ?_
    refine wl_nil ?_
    refine rk_region ?_
    refine wl_p (fun _ => o_move rfl) ?_
    refine wl_nil ?_
    refine rk_inv fun a ha => ?_
    exact ⟨g2, ha.le (Fr.le_of_sub (by repeat' constructor)), f2, by omega, hw⟩
  · rintro a1 w1 ⟨g2, ha, f2, n1, hw⟩
    have hg2 := f2.lt
    have hs1 := hw.size
    have hs0 := hb.size
    refine wpIn_block ?_
    refine wpIn_rangeFunc_ownF (α := Int) rfl (by decide) (gf := gf) (lb := lb) (ha.ev rfl) trivial hE (encs := encI) (Kp := Below w0.heap.size) (S := fun xs => xs = L) (Sp := fun _ => True) (N := L.length) (w0 := w0)
      hS belowK_t (belowK_b (by omega)) (hb.trans (hw.mono hs0)) (fun _ => rfl)
      (fun pre W => (∃ A c, OwnZ W w.heap.size W.heap.size A c pre ∧ Blk W g2 51 [.slice A pre.length c]) ∧ Below w.heap.size w W) (fun _ _ _ => False)
      (fun s X Y row hs hg hr => by
        obtain ⟨⟨A, c, h1, h2⟩, h3⟩ := hs
        have h4 := ownZ_noncell h1 hg hr
        exact ⟨⟨A, c, ⟨h4.o, fun k hk => by have := h1.hi k hk; have := hg.size; omega⟩, blk_noncell h2 hg hr⟩, h3.grown hg h3.size (fun k e => by have := (hr k e).1; omega)⟩)
      (fun _ _ _ _ _ hs _ _ => hs) ⟨⟨none, 0, OwnZ.nil_, f2⟩, hw⟩
      (fun x => (a1.put (some 7) (.int .i64 x)).put (some 5) (.int .i64 x)) ?assign ?body ?done ?stop
    case assign =>
      intro l x W K hKK
      have hrep := ha.put (d := 7) rfl (.int .i64 x)
      have e : ({ tmps := (#[7].zip (encI x)).foldl (fun t (p, v) => t.setIfInBounds p v) a1.tmps, defers := [] } : Act) = a1.put (some 7) (.int .i64 x) := by
        simp [encI, Act.put, ha.defers]
      rw [e]
      refine wpIn_region_lit (wpListIn_plain rfl (fun K' hK' => ⟨fun _ _ => trivial, ?_⟩))
      have hrun := (o_assign (P := Try.prog) (w := W) (ty := 3) (x := .tmp 7) rfl : OpV Try.prog _ _ W _ 3 (.int .i64 x) W) _ hrep
      show Oper.uponIn _ _ _ _ _ _ _ (Sem.run Try.prog (Oper.semAt (some l) _ _) W)
      rw [semAt_plain rfl, hrun _ rfl rfl]
      exact hK' _ _ (wpListIn_nil hKK)
    case body =>
      clear f2
      rintro l0 pre x W ⟨⟨A, c, fo, f2⟩, hW⟩ hpl
      have hrep : Rep Try.f39.ntmps ((a1.put (some 7) (.int .i64 x)).put (some 5) (.int .i64 x)) [(5, .int .i64 x), (2, .pointer (some ⟨g2, 0, none⟩))] :=
        ((ha.put (d := 7) rfl _).put (d := 5) rfl _).le (Fr.le_of_sub (by repeat' constructor))
      refine wpIn_block (wpIn_mono ((?_ : RIn Try.prog Try.f39 Try.f39.ntmps (fun _ W' => KeepsOthers W W' ∧ Below w0.heap.size W W' ∧ (∃ A c, OwnZ W' w.heap.size W'.heap.size A c (pre ++ [x]) ∧ Blk W' g2 51 [.slice A (pre ++ [x]).length c]) ∧ Below w.heap.size w W') l0 1 _ _ W) _ hrep) (fun e a w he => ?_))
      · clear hw ha hrep
        have hWw := hW.size
        have hw := hW
        have hgk := f2.lt
        have hlt : ∀ k, blk A = some k → w.heap.size ≤ k ∧ k < W.heap.size := RowH.lt fo
        refine in_plain ?_
        refine wl_r (o_loadbg Try.isAgg51 rfl f2 (by rfl)) ?_
        refine wl_p (fun _ => o_move rfl) ?_
        refine wl_litZH [x] (by rfl) rfl rfl (by rfl) (by rfl) (by rfl) ?_
        rintro A10 w10 f10 b10
        have qf10 := f10.cap
        have s10 := b10.size
        replace hw := hw.trans (b10.mono hw.size)
        replace f2 := f2.u b10
        replace fo := fo.u b10
        refine wl_appZ rfl fo rfl rfl f10.to_RZ (by rfl) (by omega) hw.size ?_
        rintro A11 c11 w11 f11 g11 b11 i11
        have qf11 := f11.cap
        have s11 := g11.size
        replace hw := hw.trans (b11.mono (by omega))
        replace f2 := f2.y g11 (by decide)
        replace f10 := f10.k g11.g (fo.ap (by omega))
        clear fo
        refine wl_storeg1 Try.sizeOf51 rfl rfl (by rfl) f2 (by simp) ?_
        rintro w_1 f g e
        have s := g.size
        replace hw := hw.trans (below_of_grownBy g.g hw.size (by omega))
        replace f10 := f10.k g.g (ap_some (by omega))
        replace f11 := f11.y g (by decide)
        clear f2
        refine wl_nil ?_
        refine rk_inv fun a ha => ?_
        have q1 : Below W.heap.size W w10 := by assumption
        have q2 : Grew w10 w11 3 (blk A) := by assumption
        have q3 : Grew w11 w_1 51 (some g2) := by assumption
        have s1 := q1.size
        have s2 := q2.size
        have s3 := q3.size
        exact ⟨(keeps_below q1).trans ((keeps_grew q2).trans (keeps_grew q3)), (q1.mono (by omega)).trans ((q2.below (by omega) (fun k hk => by have := (hlt k hk).1; omega)).trans (q3.below (by omega) (fun k hk => by injection hk with hk; omega))), ⟨_, _, ⟨f11.o, fun k hk => by have := f11.hi k hk; omega⟩, f⟩, hw⟩
      · obtain ⟨rfl, h1, h2, h3⟩ := kpost_inv he
        exact ⟨h1, h2, h3⟩
    case done =>
      rintro D xs W hD rfl ⟨⟨A, c, fo, f2⟩, hW⟩ hKD
      have hsem : ∀ (ρ : Operand → Value) (o : Oper), o.semAt Fence.wide.round ρ = execOp ρ o := fun _ _ => rfl
      have hg2' := f2.lt
      show Code.wpIn Fence.wide 3 Try.prog _ _ { tmps := a1.tmps, defers := _ } W
      refine wpIn_seq (wpIn_region_lit (wpListIn_plain rfl (fun K hK => ⟨fun _ _ => trivial, ?_⟩)))
      have hrun := (o_loadb (P := Try.prog) (N := Try.f39.ntmps) (ty := 51) (t := 51) (x := .tmp 2) Try.isAgg51 rfl f2 rfl : OpV Try.prog _ [(6, _), (2, _)] W _ _ _ W) _ ha
      rw [hsem, eval_defers, hrun _ rfl rfl]
      refine hK _ _ ?_
      have ha2 := ha.put (d := 12) rfl (.slice A xs.length c)
      refine wpListIn_plain rfl (fun K hK => ⟨fun _ _ => trivial, ?_⟩)
      have hrun2 := (o_assign (P := Try.prog) (w := W) (ty := 51) (x := .tmp 12) rfl : OpV Try.prog _ _ W _ 51 (.slice A xs.length c) W) _ ha2
      rw [hsem, show Act.eval (Act.put _ _ _) = (a1.put (some 12) (.slice A xs.length c)).eval by funext x; cases x <;> rfl, hrun2 _ rfl rfl]
      refine hK _ _ (wpListIn_nil (wpIn_ret ?_))
      have ha3 := ha2.put (d := 4) rfl (.slice A xs.length c)
      show LeavesInM Fence.wide 3 Try.prog _ ((a1.put (some 12) (.slice A xs.length c)).put (some 4) (.slice A xs.length c)).tmps _ (_ :: a1.defers) .returning W
      rw [ha.defers]
      refine ⟨by simp, .inl ⟨D, _, rfl, run_takeDeferred hKD, ?_⟩⟩
      have hr : ∀ r, (some D : Option Nat) = some r → D ≤ r ∧ ∃ o : Obj, W.heap[r]? = some o ∧ o.isCells = false := fun r e => by cases e; exact ⟨Nat.le_refl _, _, hKD, rfl⟩
      have h4 := ownZ_noncell fo (grownBy_putObj' W D (.deferred none)) hr
      have hsz : (W.putObj D (.deferred none)).heap.size = W.heap.size := by simp
      refine ⟨_, results_tmp (t := 4) rfl _ _ _, _, rfl, _, _, ?_, ⟨h4.o, fun k hk => by have := fo.hi k hk; omega⟩, hW.grown (grownBy_putObj' W D (.deferred none)) hW.size (fun k e => by injection e with e; have := hw.size; omega)⟩
      exact ha3.ev (x := .tmp 4) rfl
    case stop => exact fun D c pre W _ _ h _ => h.elim
theorem C_Collect {gf : Nat} {lb : Array Value} {L : List Int} {w0 : World} (w : World) (hE : ∀ args w, (callFunc gf args).run Try.prog w = .ok (.enter gf args) w) (hS : SeqStopsK Fence.wide 2 Try.prog gf lb encI (Below w0.heap.size) (fun xs => xs = L) (fun _ => True) L.length w0) (hb : Below w0.heap.size w0 w) (hl : L.length ≤ 4000) :
    CallsR Try.prog 32 [.func (.func gf) #[] lb] w fun v w' => ∃ A' c', v = .slice A' L.length c' ∧ OwnZ w' w.heap.size w'.heap.size A' c' L ∧ Below w.heap.size w w' := by
  refine callsR Try.func32 rfl rfl (by kernel_rfl) rfl ?_
  have hw := Below.refl w.heap.size w
  refine rk_seq ?_
  refine rk_region ?_
  refine wl_p (fun _ => o_assign rfl) ?_
  refine wl_nil ?_
  refine rk_seq ?_
  refine rk_region ?_
  refine wl_p (fun _ => o_move rfl) ?_
  refine wl_call rfl (C_AppendSeq w hE hS hb hl) ?_
  rintro v4 w4 ⟨A4, c4, rfl, f4, hw⟩
  refine wl_p (fun _ => o_assign rfl) ?_
  refine wl_nil ?_
  refine ret1 rfl rfl ?_
  exact ⟨_, _, rfl, f4, hw⟩
/-- The places of the envelopes to a node. -/
def placesN (L : List En) (i : Int) : List Int := (L.zipIdx.filter fun p => decide (p.1.2.1 = i)).map fun p => (p.2 : Int)
theorem placesN_succ (L : List En) (i : Int) {k : Nat} (hk : k < L.length) : placesN (L.take (k + 1)) i = placesN (L.take k) i ++ (if L[k].2.1 = i then [(k : Int)] else []) := by
  unfold placesN
  rw [List.take_succ_eq_append_getElem hk, List.zipIdx_append, List.filter_append, List.map_append]
  congr 1
  have hl : (L.take k).length = k := by rw [List.length_take]; omega
  rw [hl]
  by_cases h : L[k].2.1 = i
  · rw [if_pos h]; simp [h]
  · rw [if_neg h]; simp [h]
theorem placesN_pre (L : List En) (i : Int) (k : Nat) : ∃ r, placesN L i = placesN (L.take k) i ++ r := by
  unfold placesN
  refine ⟨((L.drop k).zipIdx (L.take k).length |>.filter fun p => decide (p.1.2.1 = i)).map fun p => (p.2 : Int), ?_⟩
  rw [← List.map_append, ← List.filter_append]
  have := List.zipIdx_append (xs := L.take k) (ys := L.drop k) (k := 0)
  rw [List.take_append_drop, Nat.zero_add] at this
  rw [this]
theorem placesN_len (L : List En) (i : Int) : (placesN L i).length ≤ L.length := by
  unfold placesN
  rw [List.length_map]
  refine Nat.le_trans (List.length_filter_le _ _) ?_
  rw [List.length_zipIdx]
  exact Nat.le_refl _
theorem places_stops {k i : Int} {A : Option Addr} {L : List En} {c g h : Nat} (w : World) (hg : Blk w g 27 [.int .i64 k, .slice A L.length c]) (hh : Blk w h 3 [.int .i64 i]) (hL : REn w A L) (hl : L.length ≤ 4000) :
    SeqStopsK Fence.wide 2 Try.prog 40 #[.pointer (some ⟨g, 0, none⟩), .pointer (some ⟨h, 0, none⟩)] encI (Below w.heap.size) (fun xs => xs = placesN L i) (fun _ => True) (placesN L i).length w := fun l J Jx W hb hJ hJx hY h0 => by
  have main : CallsR Try.prog 40 [.func (.yield l) #[] #[], .pointer (some ⟨g, 0, none⟩), .pointer (some ⟨h, 0, none⟩)] W fun _ w' => (∃ xs, xs = placesN L i ∧ J xs w') ∨ (∃ pre, True ∧ Jx pre w') := by
    refine callsR Try.func40 rfl rfl (by kernel_rfl) rfl ?_
    have hw := hb
    refine rk_seq ?_
    refine rk_region ?_
    refine wl_p (fun _ => o_faddr (s := 27) (i := 1) (off := 1) Try.underlying27 rfl Try.sizeOf25 rfl rfl rfl) ?_
    refine wl_r (o_loadbg Try.isAgg25 rfl (hg.u hw) (by rfl)) ?_
    refine wl_p (fun _ => o_len (t := 25) Try.underlying25 rfl) ?_
    refine wl_p (fun _ => o_move rfl) ?_
    refine wl_nil ?_
    refine rk_block ?_
    refine rk_joinf (fun fb fr w2 => fr = [] ++ fb.drop 1 ∧ J (placesN L i) w2) ?_ (fun ks hj => ?_)
    rotate_left
    · refine rk_loopf (fun fb m fr w2 => ∃ (j : Nat) (v : Int), fr = [(9, .int .i64 v)] ++ fb.drop 1 ∧ v = j ∧ j ≤ L.length ∧ m = L.length - j ∧ J (placesN (L.take j) i) w2 ∧ W.heap.size ≤ w2.heap.size ∧ Below w.heap.size w w2) (n := L.length) (Fr.le_of (by kernel_rfl) (by kernel_rfl) (by repeat' constructor)) ⟨0, _, rfl, rfl, by omega, rfl, h0, Nat.le_refl _, hw⟩ ?_
      clear hw h0
      rintro m fr w2 ⟨j, v, rfl, rfl, hj0, rfl, hJk, hsW, hw⟩
      have shw := hw.size
      first | refine rk_frame (by simp only [List.cons_append, List.nil_append, List.drop_succ_cons, List.drop_zero]; rfl) ?_ | refine wl_frame (by simp only [List.cons_append, List.nil_append, List.drop_succ_cons, List.drop_zero]; rfl) ?_
      refine rk_seq ?_
      refine rk_region ?_
      refine wl_p (fun _ => o_lt rfl rfl) ?_
      refine wl_nil ?_
      refine rk_seq ?_
      refine rk_if rfl (fun h10 => ?_) (fun h10 => ?_)
      · have hjl : j < L.length := by omega
        have hw1 := Below.refl w2.heap.size w2
        refine rk_skip ?_
        refine rk_seq ?_
        refine rk_block ?_
        refine rk_seq ?_
        refine rk_region ?_
        refine wl_p (fun _ => o_move rfl) ?_
        refine wl_p (fun _ => (o_iaddrA (j) Try.underlying25 Try.sizeOf38 rfl rfl rfl (hL.some_ (by omega)) (by omega))) ?_
        refine wl_ldEnv rfl hL hw (by omega) ?_
        rintro A113 c113 f13 i13 i13_1 e13 e13_1
        refine wl_allocg [_, _, _] Try.zeroValue38 (by rfl) ?_
        rintro g5 w5 f5 b5 i5 i5_1
        have s5 := b5.size
        replace hw := hw.trans (b5.mono hw.size)
        replace hw1 := hw1.trans (b5.mono hw1.size)
        refine wl_p (fun _ => o_assign rfl) ?_
        refine wl_storega Try.sizeOf38 rfl rfl (by rfl) (oneCell_of (by rfl)) f5 (by rfl) ?_
        rintro w_1 f g_1 e
        have s := g_1.size
        replace hw := hw.trans (below_of_grownBy g_1.g hw.size (by omega))
        replace hw1 := hw1.trans (below_of_grownBy g_1.g hw1.size (by omega))
        clear f5
        refine wl_nil ?_
        refine rk_seq ?_
        refine rk_regionI 2 ?_
        have hJ2 : J (placesN (L.take j) i) w_1 := hJ _ _ _ none hJk (grown_of_below hw1 none) (fun r e => by cases e)
        have hsx := hw1.size
        refine wli_p (o_faddr (i := 1) (off := 1) Try.underlying38 rfl Try.sizeOf3 rfl rfl rfl) ?_
        refine wli_p (o_loadbg Try.isAgg3 rfl f (by rfl)) ?_
        refine wli_p (o_loadbg Try.isAgg3 rfl (hh.u hw) (by rfl)) ?_
        refine wli_p (o_eq rfl rfl) ?_
        refine wli_p (o_move rfl) ?_
        refine wli_bool 18 rfl (fun h18 => ?_) (fun h18 => ?_)
        · have e18 : L[j].2.1 = i := of_decide_eq_true h18
          have hp := placesN_succ L i hjl
          rw [if_pos e18] at hp
          have hlen : (placesN (L.take j) i).length < (placesN L i).length := by
            obtain ⟨r, hr⟩ := placesN_pre L i (j + 1)
            rw [hr, hp]; simp
          refine wli_p (o_move rfl) ?_
          refine wli_p (o_move rfl) ?_
          refine wli_yield rfl rfl (hY _ (j : Int) _ hJ2 hlen) (fun e w3 he => ?_)
          rcases he with ⟨rfl, hJ3, hkp⟩ | ⟨rfl, hx3⟩
          · refine ⟨true, rfl, ?_⟩
            refine wli_p (o_not rfl) ?_
            refine wli_p (o_pick_t rfl rfl) ?_
            refine wli_nil ?_
            replace hw := hw.trans hkp
            have hsz := hkp.size
            clear f
            refine rk_false rfl ?_
            refine rk_skip ?_
            refine rk_blk ?_
            refine rk_region ?_
            refine wl_p (fun _ => o_add rfl rfl (by omega) (by omega)) ?_
            refine wl_p (fun _ => o_move rfl) ?_
            refine wl_nil ?_
            exact rk_againf (Fr.le_of (by kernel_rfl) (by kernel_rfl) (by repeat' constructor)) ⟨j + 1, (j : Int) + 1, rfl, by omega, by omega, rfl, by rw [hp]; exact hJ3, by omega, hw⟩ (by omega)
          · refine ⟨false, rfl, ?_⟩
            refine wli_p (o_not rfl) ?_
            refine wli_p (o_pick_t rfl rfl) ?_
            refine wli_nil ?_
            clear f
            refine rk_true rfl ?_
            refine ret0 rfl ?_
            exact .inr ⟨_, trivial, hx3⟩
        · have e18 : L[j].2.1 ≠ i := of_decide_eq_false h18
          have hp := placesN_succ L i hjl
          rw [if_neg e18, List.append_nil] at hp
          refine wli_off ?_
          refine wli_off ?_
          refine wli_off ?_
          refine wli_off ?_
          refine wli_p (o_pick_f rfl rfl) ?_
          refine wli_nil ?_
          clear f
          refine rk_false rfl ?_
          refine rk_skip ?_
          refine rk_blk ?_
          refine rk_region ?_
          refine wl_p (fun _ => o_add rfl rfl (by omega) (by omega)) ?_
          refine wl_p (fun _ => o_move rfl) ?_
          refine wl_nil ?_
          exact rk_againf (Fr.le_of (by kernel_rfl) (by kernel_rfl) (by repeat' constructor)) ⟨j + 1, (j : Int) + 1, rfl, by omega, by omega, rfl, by rw [hp]; exact hJ2, by omega, hw⟩ (by omega)
      · refine rk_exit rfl ?_
        obtain rfl : j = L.length := by omega
        rw [List.take_length] at hJk
        exact rk_tof hj (Fr.le_of (by kernel_rfl) (by kernel_rfl) (by repeat' constructor)) ⟨rfl, hJk⟩
    rintro fr w2 ⟨rfl, hJM⟩
    first | refine rk_frame (by simp only [List.cons_append, List.nil_append, List.drop_succ_cons, List.drop_zero]; rfl) ?_ | refine wl_frame (by simp only [List.cons_append, List.nil_append, List.drop_succ_cons, List.drop_zero]; rfl) ?_
    refine end0 rfl ?_
    exact .inl ⟨_, rfl, hJM⟩
  refine callsIn_wide.2 (main.2.mono ?_)
  rintro e w' ⟨v, rfl, hv⟩
  exact ⟨⟨v, rfl⟩, hv⟩
theorem C_places {k i : Int} {A : Option Addr} {n c : Nat} (w : World) :
    CallsR Try.prog 33 [.agg #[.int .i64 k, .slice A n c], .int .i64 i] w fun v w' => ∃ g h, v = .func (.func 40) #[] #[.pointer (some ⟨g, 0, none⟩), .pointer (some ⟨h, 0, none⟩)] ∧ Blk w' g 27 [.int .i64 k, .slice A n c] ∧ Blk w' h 3 [.int .i64 i] ∧ Below w.heap.size w w' := by
  refine callsR Try.func33 rfl rfl (by kernel_rfl) rfl ?_
  have hw := Below.refl w.heap.size w
  refine rk_seq ?_
  refine rk_region ?_
  refine wl_boxg [_, _] rfl (by rfl) ?_
  rintro g2 w2 f2 b2 i2 i2_1
  have s2 := b2.size
  replace hw := hw.trans (b2.mono hw.size)
  refine wl_boxg [_] rfl (by rfl) ?_
  rintro g3 w3 f3 b3 i3 i3_1
  have s3 := b3.size
  replace hw := hw.trans (b3.mono hw.size)
  replace f2 := f2.u b3
  refine wl_p (fun _ => o_assign rfl) ?_
  refine wl_nil ?_
  refine rk_seq ?_
  refine rk_region ?_
  refine wl_p (fun _ => o_makeFunc (xs := [.tmp 2, .tmp 3]) rfl) ?_
  refine wl_p (fun _ => o_assign rfl) ?_
  refine wl_nil ?_
  refine ret1 rfl rfl ?_
  exact ⟨_, _, rfl, f2, f3, hw⟩
theorem C_ToN {k i : Int} {A : Option Addr} {L : List En} {n c : Nat} (w : World) (hL : REn w A L) (hn : n = L.length) (hl : L.length ≤ 4000) :
    CallsR Try.prog 20 [.agg #[.int .i64 k, .slice A n c], .int .i64 i] w fun v w' => ∃ A' c', v = .slice A' (if netOk k L then placesN L i else []).length c' ∧ OwnZ w' w.heap.size w'.heap.size A' c' (if netOk k L then placesN L i else []) ∧ Below w.heap.size w w' := by
  subst hn
  obtain ⟨e, he⟩ : ∃ e, netErr k L = e := ⟨_, rfl⟩
  have hno : netOk k L = decide (e = 0) := by
    rw [← he]; unfold netErr
    cases netOk k L <;> rfl
  have hml : L.length ≤ maxLen := by simp only [maxLen]; omega
  refine callsR Try.func20 rfl rfl (by kernel_rfl) rfl ?_
  have hw := Below.refl w.heap.size w
  refine rk_seq ?_
  refine rk_region ?_
  refine wl_boxg [_, _] rfl (by rfl) ?_
  rintro g2 w2 f2 b2 i2 i2_1
  have s2 := b2.size
  replace hw := hw.trans (b2.mono hw.size)
  refine wl_p (fun _ => o_assign rfl) ?_
  refine wl_nil ?_
  refine rk_seq ?_
  refine rk_seq ?_
  refine rk_region ?_
  refine wl_r (o_loadag Try.isAgg27 Try.sizeOf27 rfl f2 (by rfl)) ?_
  refine wl_call rfl (C_Check _ (hL.u hw) he rfl (by omega)) ?_
  rintro v6 w6 ⟨rfl, b6⟩
  have s6 := b6.size
  replace hw := hw.trans (b6.mono hw.size)
  replace f2 := f2.u b6
  refine wl_p (fun _ => o_ne rfl rfl) ?_
  refine wl_nil ?_
  refine rk_if rfl (fun h7 => ?_) (fun h7 => ?_)
  · rw [hno, decide_eq_false (by omega)]
    refine rk_seq ?_
    refine rk_region ?_
    refine wl_p (fun _ => o_assign rfl) ?_
    refine wl_nil ?_
    refine ret1 rfl rfl ?_
    exact ⟨none, 0, rfl, OwnZ.nil_, hw⟩
  · rw [hno, decide_eq_true (by omega)]
    refine rk_skip ?_
    refine rk_seq ?_
    refine rk_region ?_
    refine wl_r (o_loadag Try.isAgg27 Try.sizeOf27 rfl f2 (by rfl)) ?_
    refine wl_p (fun _ => o_move rfl) ?_
    refine wl_call rfl (C_places _) ?_
    rintro v10 w10 ⟨g10, ⟨h10, ⟨rfl, ⟨f10, ⟨f10_1, b10⟩⟩⟩⟩⟩
    have s10 := b10.size
    replace hw := hw.trans (b10.mono hw.size)
    replace f2 := f2.u b10
    have hpl := placesN_len L i
    have hS := places_stops w10 f10 f10_1 (hL.u hw) hl
    refine wl_call rfl (C_Collect w10 (enters_of Try.func40 (by kernel_rfl) rfl) hS (Below.refl _ _) (by omega)) ?_
    rintro v11 w11 ⟨A11, c11, rfl, f11, b11⟩
    have hs10 := hw.size
    replace hw := hw.trans (b11.mono hs10)
    clear f10 f10_1 f2
    refine wl_p (fun _ => o_assign rfl) ?_
    refine wl_nil ?_
    rw [if_pos rfl]
    refine ret1 rfl rfl ?_
    exact ⟨_, _, rfl, RowH.base f11 hs10 (Nat.le_refl _), hw⟩
end Go.Proofs.Ytaldpegegekbjaa
