/-
  Envelopes as they lie in memory.
-/
import Derived.Test.YtaldpegegekbjaaGo
import Derived.Test.YtaldpegegekbjaaRs
namespace Go.Proofs.Ytaldpegegekbjaa
open Go.RowKit
abbrev By := List UInt8
abbrev En := Int × Int × By
def gEnv : GoT En := (gInt .i64).pair ((gInt .i64).pair gBytes)
/-- A slice of envelopes. -/
def REn (w : World) (A : Option Addr) (L : List En) : Prop := RSl gEnv w A L
section
variable {w w' : World} {A : Option Addr} {L : List En}
theorem REn.u (h : REn w A L) (hb : Below w.heap.size w w') : REn w' A L := RSl.u h hb
theorem REn.d (h : REn w A L) : REn w.drew A L := RSl.u h (below_drew w)
theorem REn.some_ (h : REn w A L) (hl : 0 < L.length) : A = some (A.getD ⟨0, 0, none⟩) := RSl.some_ h (by decide) hl
theorem REn.nil_ : REn w none [] := RSl.nil _ _ _
theorem REn.elem (h : REn w A L) {i : Nat} (hi : i < L.length) : ∃ A1 c1, CellsAt w A (i * 3) [.int .i64 L[i].1, .int .i64 L[i].2.1, .slice A1 L[i].2.2.length c1] ∧ Rd w A1 L[i].2.2 ∧ L[i].2.2.length ≤ c1 ∧ c1 ≤ maxLen ∧ (Lit.int .i64 L[i].1).wf = true ∧ (Lit.int .i64 L[i].2.1).wf = true := by
  obtain ⟨cs, h1, x, y, rfl, ⟨rfl, w1⟩, y1, y2, rfl, ⟨rfl, w2⟩, A1, c1, rfl, h2, h3, h4⟩ := RSl.elem h (by decide) hi
  exact ⟨A1, c1, h1, h2, h3, h4, w1, w2⟩
end
section
variable {fn : Func} {F : Ending → World → Prop} {N : Nat} {ks : List K} {ops : Array Oper} {tg : Tags} {l : List Oper} {fr : Fr} {w : World} {ty : TypeId} {pos : String} {aft : Array Edge} {gd : Option (Nat × Bool)} {d j : Nat} {x : Operand} {A : Option Addr} {L : List En} {w0 : World}
--@ rule load l wl_ldEnv
theorem wl_ldEnv (hx : fr.ev x = some (.pointer (some (adr A (j * 3))))) (hr : REn w0 A L) (hb : Below w0.heap.size w0 w) (hj : j < L.length)
    (hk : ∀ A1 c1, Rd w0 A1 L[j].2.2 → L[j].2.2.length ≤ c1 → c1 ≤ maxLen → (Lit.int .i64 L[j].1).wf = true → (Lit.int .i64 L[j].2.1).wf = true → WL Try.prog fn F N ks ops tg.tail l ((d, .agg #[.int .i64 L[j].1, .int .i64 L[j].2.1, .slice A1 L[j].2.2.length c1]) :: fr) w)
    (ht : tg.reads = true := by rfl) (hg : onG ops fr gd = true := by rfl) (hd : Nat.blt d N = true := by rfl) : WL Try.prog fn F N ks ops tg (⟨some d, .load 38 x, ty, pos, aft, gd⟩ :: l) fr w := by
  obtain ⟨A1, c1, h1, h2, h3, h4, w1, w2⟩ := hr.elem hj
  refine wl_r (o_loadn (cs := [.int .i64 L[j].1, .int .i64 L[j].2.1, .slice A1 L[j].2.2.length c1]) Try.isAgg38 Try.sizeOf38 hx (fun i u hu => ?_)) (hk A1 c1 h2 h3 h4 w1 w2) ht hg hd
  rw [adr_add]
  exact h1.u hb i u hu
end
/-- Is it a node? -/
def isNd (k i : Int) : Bool := decide (0 ≤ i ∧ i < k)
theorem C_isNode {k i : Int} {A : Option Addr} {n c : Nat} (w : World) : CallsR Try.prog 30 [.agg #[.int .i64 k, .slice A n c], .int .i64 i] w fun v w' => v = .bool (isNd k i) ∧ Below w.heap.size w w' := by
  by_cases h0 : 0 ≤ i
  · refine callsR Try.func30 rfl rfl (by kernel_rfl) rfl ?_
    have hw := Below.refl w.heap.size w
    refine rk_seq ?_
    refine rk_region ?_
    refine wl_boxg [_, _] rfl (by rfl) ?_
    rintro g2 w2 f2 b2 i2 i2_1
    have s2 := b2.size
    replace hw := hw.trans (b2.mono hw.size)
    refine wl_p (fun _ => o_assign rfl) ?_
    refine wl_nil ?_
    refine rk_seq ?_
    refine rk_region ?_
    refine wl_p (fun _ => o_move rfl) ?_
    refine wl_p (fun _ => o_ge rfl rfl) ?_
    refine wl_p (fun _ => o_move rfl) ?_
    refine wl_know 7 true rfl (decide_eq_true (by omega)) ?_
    refine wl_p (fun _ => o_move rfl) ?_
    refine wl_p (fun _ => o_faddr (s := 27) (i := 0) (off := 0) Try.underlying27 rfl Try.sizeOf3 rfl rfl rfl) ?_
    refine wl_r (o_loadbg Try.isAgg3 rfl f2 (by rfl)) ?_
    refine wl_p (fun _ => o_lt rfl rfl) ?_
    refine wl_p (fun _ => o_pick_t rfl rfl) ?_
    refine wl_p (fun _ => o_assign rfl) ?_
    refine wl_nil ?_
    rw [decide_eq_true h0]
    refine ret1 rfl rfl ?_
    exact ⟨congrArg Value.bool (decide_eq_decide.2 (by omega)), hw⟩
  · refine callsR Try.func30 rfl rfl (by kernel_rfl) rfl ?_
    have hw := Below.refl w.heap.size w
    refine rk_seq ?_
    refine rk_region ?_
    refine wl_boxg [_, _] rfl (by rfl) ?_
    rintro g2 w2 f2 b2 i2 i2_1
    have s2 := b2.size
    replace hw := hw.trans (b2.mono hw.size)
    refine wl_p (fun _ => o_assign rfl) ?_
    refine wl_nil ?_
    refine rk_seq ?_
    refine rk_region ?_
    refine wl_p (fun _ => o_move rfl) ?_
    refine wl_p (fun _ => o_ge rfl rfl) ?_
    refine wl_p (fun _ => o_move rfl) ?_
    refine wl_know 7 false rfl (decide_eq_false (by omega)) ?_
    refine wl_off ?_
    refine wl_off ?_
    refine wl_off ?_
    refine wl_off ?_
    refine wl_p (fun _ => o_pick_f rfl rfl) ?_
    refine wl_p (fun _ => o_assign rfl) ?_
    refine wl_nil ?_
    rw [decide_eq_false h0]
    refine ret1 rfl rfl ?_
    exact ⟨by unfold isNd; rw [decide_eq_false (by omega)], hw⟩
def okEnv (k : Int) (e : En) : Bool := isNd k e.1 && isNd k e.2.1 && decide (e.1 ≠ e.2.1) && decide (e.2.2.length ≤ 16384)
def netOk (k : Int) (L : List En) : Bool := decide (1 ≤ k ∧ k ≤ 7 ∧ L.length ≤ 512) && L.all (okEnv k)
def netErr (k : Int) (L : List En) : Int := if netOk k L then 0 else 2
theorem C_Check {k r : Int} {A : Option Addr} {L : List En} {n c : Nat} (w : World) (hL : REn w A L) (hr : netErr k L = r) (hn : n = L.length) (hm : n ≤ maxLen) : CallsR Try.prog 17 [.agg #[.int .i64 k, .slice A n c]] w fun v w' => v = .int .i64 r ∧ Below w.heap.size w w' := by
  subst hn; subst hr
  by_cases h1 : k < 1
  · have e : netErr k L = 2 := by unfold netErr netOk; rw [decide_eq_false (by omega)]; rfl
    rw [e]
    refine callsR Try.func17 rfl rfl (by kernel_rfl) rfl ?_
    have hw := Below.refl w.heap.size w
    refine rk_seq ?_
    refine rk_region ?_
    refine wl_boxg [_, _] rfl (by rfl) ?_
    rintro g1 w1 f1 b1 i1 i1_1
    have s1 := b1.size
    replace hw := hw.trans (b1.mono hw.size)
    refine wl_p (fun _ => o_assign rfl) ?_
    refine wl_nil ?_
    refine rk_seq ?_
    refine rk_seq ?_
    refine rk_region ?_
    refine wl_p (fun _ => o_faddr (s := 27) (i := 0) (off := 0) Try.underlying27 rfl Try.sizeOf3 rfl rfl rfl) ?_
    refine wl_r (o_loadbg Try.isAgg3 rfl f1 (by rfl)) ?_
    refine wl_p (fun _ => o_lt rfl rfl) ?_
    refine wl_p (fun _ => o_move rfl) ?_
    refine wl_know 8 true rfl (decide_eq_true (by omega)) ?_
    refine wl_off ?_
    refine wl_off ?_
    refine wl_off ?_
    refine wl_p (fun _ => o_pick_t rfl rfl) ?_
    refine wl_p (fun _ => o_move rfl) ?_
    refine wl_off ?_
    refine wl_off ?_
    refine wl_off ?_
    refine wl_off ?_
    refine wl_p (fun _ => o_pick_t rfl rfl) ?_
    refine wl_nil ?_
    refine rk_true rfl ?_
    refine rk_seq ?_
    refine rk_region ?_
    refine wl_p (fun _ => o_assign rfl) ?_
    refine wl_nil ?_
    rw [decide_eq_true h1]
    refine ret1 rfl rfl ?_
    exact ⟨rfl, hw⟩
  by_cases h2 : 7 < k
  · have e : netErr k L = 2 := by unfold netErr netOk; rw [decide_eq_false (by omega)]; rfl
    rw [e]
    refine callsR Try.func17 rfl rfl (by kernel_rfl) rfl ?_
    have hw := Below.refl w.heap.size w
    refine rk_seq ?_
    refine rk_region ?_
    refine wl_boxg [_, _] rfl (by rfl) ?_
    rintro g1 w1 f1 b1 i1 i1_1
    have s1 := b1.size
    replace hw := hw.trans (b1.mono hw.size)
    refine wl_p (fun _ => o_assign rfl) ?_
    refine wl_nil ?_
    refine rk_seq ?_
    refine rk_seq ?_
    refine rk_region ?_
    refine wl_p (fun _ => o_faddr (s := 27) (i := 0) (off := 0) Try.underlying27 rfl Try.sizeOf3 rfl rfl rfl) ?_
    refine wl_r (o_loadbg Try.isAgg3 rfl f1 (by rfl)) ?_
    refine wl_p (fun _ => o_lt rfl rfl) ?_
    refine wl_p (fun _ => o_move rfl) ?_
    refine wl_know 8 false rfl (decide_eq_false (by omega)) ?_
    refine wl_p (fun _ => o_faddr (s := 27) (i := 0) (off := 0) Try.underlying27 rfl Try.sizeOf3 rfl rfl rfl) ?_
    refine wl_r (o_loadbg Try.isAgg3 rfl f1 (by rfl)) ?_
    refine wl_p (fun _ => o_gt rfl rfl) ?_
    refine wl_p (fun _ => o_pick_f rfl rfl) ?_
    refine wl_p (fun _ => o_move rfl) ?_
    refine wl_know 13 true rfl (decide_eq_true (by omega)) ?_
    refine wl_off ?_
    refine wl_off ?_
    refine wl_off ?_
    refine wl_off ?_
    refine wl_p (fun _ => o_pick_t rfl rfl) ?_
    refine wl_nil ?_
    refine rk_true rfl ?_
    refine rk_seq ?_
    refine rk_region ?_
    refine wl_p (fun _ => o_assign rfl) ?_
    refine wl_nil ?_
    rw [decide_eq_false h1]
    rw [decide_eq_true h2]
    refine ret1 rfl rfl ?_
    exact ⟨rfl, hw⟩
  refine callsR Try.func17 rfl rfl (by kernel_rfl) rfl ?_
  have hw := Below.refl w.heap.size w
  refine rk_seq ?_
  refine rk_region ?_
  refine wl_boxg [_, _] rfl (by rfl) ?_
  rintro g1 w1 f1 b1 i1 i1_1
  have s1 := b1.size
  replace hw := hw.trans (b1.mono hw.size)
  refine wl_p (fun _ => o_assign rfl) ?_
  refine wl_nil ?_
  refine rk_seq ?_
  refine rk_seq ?_
  refine rk_region ?_
  refine wl_p (fun _ => o_faddr (s := 27) (i := 0) (off := 0) Try.underlying27 rfl Try.sizeOf3 rfl rfl rfl) ?_
  refine wl_r (o_loadbg Try.isAgg3 rfl f1 (by rfl)) ?_
  refine wl_p (fun _ => o_lt rfl rfl) ?_
  refine wl_p (fun _ => o_move rfl) ?_
  refine wl_know 8 false rfl (decide_eq_false (by omega)) ?_
  refine wl_p (fun _ => o_faddr (s := 27) (i := 0) (off := 0) Try.underlying27 rfl Try.sizeOf3 rfl rfl rfl) ?_
  refine wl_r (o_loadbg Try.isAgg3 rfl f1 (by rfl)) ?_
  refine wl_p (fun _ => o_gt rfl rfl) ?_
  refine wl_p (fun _ => o_pick_f rfl rfl) ?_
  refine wl_p (fun _ => o_move rfl) ?_
  refine wl_know 13 false rfl (decide_eq_false (by omega)) ?_
  refine wl_p (fun _ => o_faddr (s := 27) (i := 1) (off := 1) Try.underlying27 rfl Try.sizeOf25 rfl rfl rfl) ?_
  refine wl_r (o_loadbg Try.isAgg25 rfl f1 (by rfl)) ?_
  refine wl_p (fun _ => o_len (t := 25) Try.underlying25 rfl) ?_
  refine wl_p (fun _ => o_gt rfl rfl) ?_
  refine wl_p (fun _ => o_pick_f rfl rfl) ?_
  refine wl_nil ?_
  rw [decide_eq_false h1]
  rw [decide_eq_false h2]
  refine rk_if rfl (fun h18 => ?_) (fun h18 => ?_)
  · have e : netErr k L = 2 := by unfold netErr netOk; rw [decide_eq_false (by omega)]; rfl
    rw [e]
    refine rk_seq ?_
    refine rk_region ?_
    refine wl_p (fun _ => o_assign rfl) ?_
    refine wl_nil ?_
    refine ret1 rfl rfl ?_
    exact ⟨rfl, hw⟩
  refine rk_skip ?_
  refine rk_seq ?_
  refine rk_seq ?_
  refine rk_region ?_
  refine wl_p (fun _ => o_faddr (s := 27) (i := 1) (off := 1) Try.underlying27 rfl Try.sizeOf25 rfl rfl rfl) ?_
  refine wl_r (o_loadbg Try.isAgg25 rfl f1 (by rfl)) ?_
  refine wl_p (fun _ => o_len (t := 25) Try.underlying25 rfl) ?_
  refine wl_p (fun _ => o_move rfl) ?_
  refine wl_nil ?_
  refine rk_block ?_
  refine rk_joinf (fun fb fr w2 => fr = [] ++ fb.drop 1 ∧ L.all (okEnv k) = true ∧ Below w.heap.size w w2) ?_ (fun ks hj => ?_)
  rotate_left
  · refine rk_loopf (fun fb m fr w2 => ∃ (i : Nat) (v : Int), fr = [(22, .int .i64 v)] ++ fb.drop 1 ∧ v = i ∧ i ≤ L.length ∧ m = L.length - i ∧ (L.take i).all (okEnv k) = true ∧ Blk w2 g1 27 [.int .i64 k, .slice A L.length c] ∧ w1.heap.size ≤ w2.heap.size ∧ Below w.heap.size w w2) (n := L.length) (Fr.le_of (by kernel_rfl) (by kernel_rfl) (by repeat' constructor)) ⟨0, _, rfl, rfl, by omega, rfl, rfl, f1, Nat.le_refl _, hw⟩ ?_
    clear hw f1
    rintro m fr w2 ⟨i, v, rfl, rfl, hi, rfl, hall, f1, hsz, hw⟩
    have shw := hw.size
    first | refine rk_frame (by simp only [List.cons_append, List.nil_append, List.drop_succ_cons, List.drop_zero]; rfl) ?_ | refine wl_frame (by simp only [List.cons_append, List.nil_append, List.drop_succ_cons, List.drop_zero]; rfl) ?_
    refine rk_seq ?_
    refine rk_region ?_
    refine wl_p (fun _ => o_lt rfl rfl) ?_
    refine wl_nil ?_
    refine rk_seq ?_
    refine rk_if rfl (fun h23 => ?_) (fun h23 => ?_)
    · have hil : i < L.length := by omega
      have hbad : okEnv k L[i] = false → netErr k L = 2 := fun h => by
        have h3 : L.all (okEnv k) = false := by
          rw [Bool.eq_false_iff]; intro h4
          have := List.all_eq_true.1 h4 _ (List.getElem_mem hil)
          rw [h] at this; cases this
        unfold netErr netOk; rw [h3, Bool.and_false]; rfl
      have hgood : okEnv k L[i] = true → (L.take (i + 1)).all (okEnv k) = true := fun h => by
        rw [List.take_succ_eq_append_getElem hil, List.all_append, hall]
        simp [h]
      have hoe : okEnv k L[i] = (isNd k L[i].1 && isNd k L[i].2.1 && decide (L[i].1 ≠ L[i].2.1) && decide (L[i].2.2.length ≤ 16384)) := rfl
      refine rk_skip ?_
      refine rk_seq ?_
      refine rk_block ?_
      refine rk_seq ?_
      refine rk_region ?_
      refine wl_p (fun _ => (o_iaddrA (i) Try.underlying25 Try.sizeOf38 rfl rfl rfl (hL.some_ (by omega)) (by omega))) ?_
      refine wl_ldEnv rfl hL hw (by omega) ?_
      rintro A125 c125 f25 i25 i25_1 e25 e25_1
      refine wl_allocg [_, _, _] Try.zeroValue38 (by rfl) ?_
      rintro g4 w4 f4 b4 i4 i4_1
      have s4 := b4.size
      replace hw := hw.trans (b4.mono hw.size)
      replace f1 := f1.u b4
      refine wl_storega Try.sizeOf38 rfl rfl (by rfl) (oneCell_of (by rfl)) f4 (by rfl) ?_
      rintro w_1 f g e
      have s := g.size
      replace hw := hw.trans (below_of_grownBy g.g hw.size (by omega))
      replace f1 := f1.k g.g (ap_some (by omega))
      clear f4
      refine wl_nil ?_
      refine rk_seq ?_
      refine rk_region ?_
      refine wl_r (o_loadag Try.isAgg27 Try.sizeOf27 rfl f1 (by rfl)) ?_
      refine wl_p (fun _ => o_faddr (s := 38) (i := 0) (off := 0) Try.underlying38 rfl Try.sizeOf3 rfl rfl rfl) ?_
      refine wl_r (o_loadbg Try.isAgg3 rfl f (by rfl)) ?_
      refine wl_call rfl (C_isNode _) ?_
      rintro v29 w29 ⟨rfl, b29⟩
      have s29 := b29.size
      replace hw := hw.trans (b29.mono hw.size)
      replace f1 := f1.u b29
      replace f := f.u b29
      refine wl_p (fun _ => o_not rfl) ?_
      refine wl_p (fun _ => o_move rfl) ?_
      rcases ha : isNd k L[i].1 with _ | _
      · rw [hbad (by rw [hoe, ha]; rfl)]
        refine wl_off ?_
        refine wl_off ?_
        refine wl_off ?_
        refine wl_off ?_
        refine wl_off ?_
        refine wl_p (fun _ => o_pick_t rfl rfl) ?_
        refine wl_p (fun _ => o_move rfl) ?_
        refine wl_off ?_
        refine wl_off ?_
        refine wl_off ?_
        refine wl_off ?_
        refine wl_off ?_
        refine wl_p (fun _ => o_pick_t rfl rfl) ?_
        refine wl_p (fun _ => o_move rfl) ?_
        refine wl_off ?_
        refine wl_off ?_
        refine wl_off ?_
        refine wl_off ?_
        refine wl_p (fun _ => o_pick_t rfl rfl) ?_
        refine wl_nil ?_
        refine rk_true rfl ?_
        refine rk_seq ?_
        refine rk_region ?_
        refine wl_p (fun _ => o_assign rfl) ?_
        refine wl_nil ?_
        refine ret1 rfl rfl ?_
        exact ⟨rfl, hw⟩
      rw [ha] at hoe
      refine wl_r (o_loadag Try.isAgg27 Try.sizeOf27 rfl f1 (by rfl)) ?_
      refine wl_p (fun _ => o_faddr (s := 38) (i := 1) (off := 1) Try.underlying38 rfl Try.sizeOf3 rfl rfl rfl) ?_
      refine wl_r (o_loadbg Try.isAgg3 rfl f (by rfl)) ?_
      refine wl_call rfl (C_isNode _) ?_
      rintro v35 w35 ⟨rfl, b35⟩
      have s35 := b35.size
      replace hw := hw.trans (b35.mono hw.size)
      replace f := f.u b35
      replace f1 := f1.u b35
      refine wl_p (fun _ => o_not rfl) ?_
      refine wl_p (fun _ => o_pick_f rfl rfl) ?_
      refine wl_p (fun _ => o_move rfl) ?_
      rcases hb : isNd k L[i].2.1 with _ | _
      · rw [hbad (by rw [hoe, hb]; rfl)]
        refine wl_off ?_
        refine wl_off ?_
        refine wl_off ?_
        refine wl_off ?_
        refine wl_off ?_
        refine wl_p (fun _ => o_pick_t rfl rfl) ?_
        refine wl_p (fun _ => o_move rfl) ?_
        refine wl_off ?_
        refine wl_off ?_
        refine wl_off ?_
        refine wl_off ?_
        refine wl_p (fun _ => o_pick_t rfl rfl) ?_
        refine wl_nil ?_
        refine rk_true rfl ?_
        refine rk_seq ?_
        refine rk_region ?_
        refine wl_p (fun _ => o_assign rfl) ?_
        refine wl_nil ?_
        refine ret1 rfl rfl ?_
        exact ⟨rfl, hw⟩
      rw [hb] at hoe
      refine wl_p (fun _ => o_faddr (s := 38) (i := 0) (off := 0) Try.underlying38 rfl Try.sizeOf3 rfl rfl rfl) ?_
      refine wl_r (o_loadbg Try.isAgg3 rfl f (by rfl)) ?_
      refine wl_p (fun _ => o_faddr (s := 38) (i := 1) (off := 1) Try.underlying38 rfl Try.sizeOf3 rfl rfl rfl) ?_
      refine wl_r (o_loadbg Try.isAgg3 rfl f (by rfl)) ?_
      refine wl_p (fun _ => o_eq rfl rfl) ?_
      refine wl_p (fun _ => o_pick_f rfl rfl) ?_
      refine wl_p (fun _ => o_move rfl) ?_
      by_cases hc : L[i].1 = L[i].2.1
      · rw [hbad (by rw [hoe, decide_eq_false (fun h => h hc)]; rfl), decide_eq_true hc]
        refine wl_off ?_
        refine wl_off ?_
        refine wl_off ?_
        refine wl_off ?_
        refine wl_p (fun _ => o_pick_t rfl rfl) ?_
        refine wl_nil ?_
        refine rk_true rfl ?_
        refine rk_seq ?_
        refine rk_region ?_
        refine wl_p (fun _ => o_assign rfl) ?_
        refine wl_nil ?_
        refine ret1 rfl rfl ?_
        exact ⟨rfl, hw⟩
      rw [decide_eq_true hc] at hoe
      rw [decide_eq_false hc]
      refine wl_p (fun _ => o_faddr (s := 38) (i := 2) (off := 2) Try.underlying38 rfl Try.sizeOf32 rfl rfl rfl) ?_
      refine wl_r (o_loadbg Try.isAgg32 rfl f (by rfl)) ?_
      refine wl_p (fun _ => o_len (t := 32) Try.underlying32 rfl) ?_
      refine wl_p (fun _ => o_gt rfl rfl) ?_
      refine wl_p (fun _ => o_pick_f rfl rfl) ?_
      refine wl_nil ?_
      refine rk_if rfl (fun h50 => ?_) (fun h50 => ?_)
      · rw [hbad (by rw [hoe, decide_eq_false (by omega)]; rfl)]
        refine rk_seq ?_
        refine rk_region ?_
        refine wl_p (fun _ => o_assign rfl) ?_
        refine wl_nil ?_
        refine ret1 rfl rfl ?_
        exact ⟨rfl, hw⟩
      · have hg := hgood (by rw [hoe, decide_eq_true (by omega)]; rfl)
        refine rk_skip ?_
        refine rk_blk ?_
        refine rk_region ?_
        refine wl_p (fun _ => o_add rfl rfl (by omega) (by omega)) ?_
        refine wl_p (fun _ => o_move rfl) ?_
        refine wl_nil ?_
        exact rk_againf (Fr.le_of (by kernel_rfl) (by kernel_rfl) (by repeat' constructor)) ⟨i + 1, (i : Int) + 1, rfl, by omega, by omega, rfl, hg, f1, by omega, hw⟩ (by omega)
    · refine rk_exit rfl ?_
      obtain rfl : i = L.length := by omega
      rw [List.take_length] at hall
      exact rk_tof hj (Fr.le_of (by kernel_rfl) (by kernel_rfl) (by repeat' constructor)) ⟨rfl, hall, hw⟩
  clear hw f1
  rintro fr w2 ⟨rfl, hall, hw⟩
  first | refine rk_frame (by simp only [List.cons_append, List.nil_append, List.drop_succ_cons, List.drop_zero]; rfl) ?_ | refine wl_frame (by simp only [List.cons_append, List.nil_append, List.drop_succ_cons, List.drop_zero]; rfl) ?_
  have e : netErr k L = 0 := by unfold netErr netOk; rw [hall, decide_eq_true (by omega)]; rfl
  rw [e]
  refine rk_seq ?_
  refine rk_region ?_
  refine wl_p (fun _ => o_assign rfl) ?_
  refine wl_nil ?_
  refine ret1 rfl rfl ?_
  exact ⟨rfl, hw⟩
end Go.Proofs.Ytaldpegegekbjaa
