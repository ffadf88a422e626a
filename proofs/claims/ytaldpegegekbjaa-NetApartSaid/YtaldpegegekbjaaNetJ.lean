/-
  What package net answers, where it is known whether it rejects; the chapter's examples.
-/
import Derived.Test.YtaldpegegekbjaaNetI
import Derived.Test.YtaldpegegekbjaaApz
import Derived.Test.YtaldpegegekbjaaAconv
namespace Go.Proofs.Ytaldpegegekbjaa
open Go.RowKit
theorem netOk_nil {k : Int} (h1 : 1 ≤ k) (h2 : k ≤ 7) : netOk k [] = true := by
  unfold netOk; rw [decide_eq_true ⟨h1, h2, by decide⟩]; rfl
theorem C_NewOk {k : Int} (w : World) (h1 : 1 ≤ k) (h2 : k ≤ 7) : CallsR Try.prog 9 [.int .i64 k] w fun v w' => v = .tuple #[.agg #[.int .i64 k, .slice none 0 0], .int .i64 0] ∧ Below w.heap.size w w' := by
  refine (C_New w (r := 0) (by unfold netErr; rw [netOk_nil h1 h2]; rfl)).mono ?_
  rintro v w' ⟨rfl, h⟩
  exact ⟨rfl, h⟩
theorem C_PutOk {k f t x : Int} {A B : Option Addr} {L Q M : List En} {raw : By} {n c m d : Nat} (w : World) (hL : REn w A L) (hR : Rd w B raw) (hr : putErr k L f t raw = 0) (hM : putMore k f t raw = M) (hQ : L ++ M = Q) (hx : (M.length : Int) = x) (hn : n = L.length) (hnm : n ≤ maxLen) (hm : m = raw.length) (hmm : m ≤ maxLen) (wf : (Lit.int .i64 f).wf = true) (wt : (Lit.int .i64 t).wf = true) :
    CallsR Try.prog 14 [.agg #[.int .i64 k, .slice A n c], .int .i64 f, .agg #[.int .i64 t, .slice B m d]] w fun v w' => ∃ A' c', v = .tuple #[.agg #[.int .i64 k, .slice A' Q.length c'], .int .i64 x, .int .i64 0] ∧ OwnEn w.heap.size w' w.heap.size w'.heap.size A' c' Q ∧ Below w.heap.size w w' := by
  refine (C_Put w hL hR hr hn hnm hm hmm wf wt).mono ?_
  rintro v w' ⟨k', A', c', Q', x', rfl, h1, h2, _, h4⟩
  obtain ⟨rfl, rfl, rfl⟩ := h2 rfl
  subst hx; subst hQ; subst hM
  exact ⟨_, _, rfl, h1, h4⟩
theorem C_PutBad {k f t r : Int} {A B : Option Addr} {L : List En} {raw : By} {n c m d : Nat} (w : World) (hL : REn w A L) (hR : Rd w B raw) (hr : putErr k L f t raw = r) (h0 : r ≠ 0) (hn : n = L.length) (hnm : n ≤ maxLen) (hm : m = raw.length) (hmm : m ≤ maxLen) (wf : (Lit.int .i64 f).wf = true) (wt : (Lit.int .i64 t).wf = true) :
    CallsR Try.prog 14 [.agg #[.int .i64 k, .slice A n c], .int .i64 f, .agg #[.int .i64 t, .slice B m d]] w fun v w' => ∃ A' c', v = .tuple #[.agg #[.int .i64 0, .slice A' 0 c'], .int .i64 0, .int .i64 r] ∧ OwnEn w.heap.size w' w.heap.size w'.heap.size A' c' [] ∧ Below w.heap.size w w' := by
  refine (C_Put w hL hR hr hn hnm hm hmm wf wt).mono ?_
  rintro v w' ⟨k', A', c', Q', x', rfl, h1, _, h2, h4⟩
  obtain ⟨rfl, rfl, rfl⟩ := h2 h0
  exact ⟨_, _, rfl, h1, h4⟩
theorem C_TakeOk {k i : Int} {j : Nat} {A : Option Addr} {L Q : List En} {x : En} {n c : Nat} (w : World) (hL : REn w A L) (hr : netAt k L i = 0) (hi : i = (j : Int)) (hj : j < L.length) (hx : L[j] = x) (hQ : cutI L j = Q) (hn : n = L.length) (hm : n ≤ maxLen) (wi : (Lit.int .i64 i).wf = true) :
    CallsR Try.prog 11 [.agg #[.int .i64 k, .slice A n c], .int .i64 i] w fun v w' => ∃ A1 c1 A' c', v = .tuple #[.agg #[.int .i64 (Prod.fst x), .int .i64 x.2.1, .slice A1 x.2.2.length c1], .agg #[.int .i64 k, .slice A' Q.length c'], .int .i64 0] ∧ OwnEn w.heap.size w' w.heap.size w'.heap.size A' c' Q ∧ OwnH w' w.heap.size w'.heap.size A1 c1 x.2.2 ∧ Below w.heap.size w w' := by
  refine (C_Take w hL hr hn hm wi).mono ?_
  rintro v w' ⟨x', A1, c1, k', A', c', Q', rfl, h1, h2, h3, _, h4⟩
  subst hi
  obtain ⟨rfl, rfl, hl, rfl⟩ := h3 rfl
  subst hx; subst hQ
  exact ⟨_, _, _, _, rfl, h1, h2, h4⟩
theorem C_TakeBad {k i r : Int} {A : Option Addr} {L : List En} {n c : Nat} (w : World) (hL : REn w A L) (hr : netAt k L i = r) (h0 : r ≠ 0) (hn : n = L.length) (hm : n ≤ maxLen) (wi : (Lit.int .i64 i).wf = true) :
    CallsR Try.prog 11 [.agg #[.int .i64 k, .slice A n c], .int .i64 i] w fun v w' => ∃ A1 c1 A' c', v = .tuple #[.agg #[.int .i64 0, .int .i64 0, .slice A1 0 c1], .agg #[.int .i64 0, .slice A' 0 c'], .int .i64 r] ∧ OwnEn w.heap.size w' w.heap.size w'.heap.size A' c' [] ∧ OwnH w' w.heap.size w'.heap.size A1 c1 [] ∧ Below w.heap.size w w' := by
  refine (C_Take w hL hr hn hm wi).mono ?_
  rintro v w' ⟨x', A1, c1, k', A', c', Q', rfl, h1, h2, _, h3, h4⟩
  obtain ⟨rfl, rfl, rfl⟩ := h3 h0
  exact ⟨_, _, _, _, rfl, h1, h2, h4⟩
theorem C_DropOk {k i : Int} {j : Nat} {A : Option Addr} {L Q : List En} {n c : Nat} (w : World) (hL : REn w A L) (hr : netAt k L i = 0) (hi : i = (j : Int)) (hQ : cutI L j = Q) (hn : n = L.length) (hm : n ≤ maxLen) (wi : (Lit.int .i64 i).wf = true) :
    CallsR Try.prog 12 [.agg #[.int .i64 k, .slice A n c], .int .i64 i] w fun v w' => ∃ A' c', v = .tuple #[.agg #[.int .i64 k, .slice A' Q.length c'], .int .i64 0] ∧ OwnEn w.heap.size w' w.heap.size w'.heap.size A' c' Q ∧ Below w.heap.size w w' := by
  refine (C_Drop w hL hr hn hm wi).mono ?_
  rintro v w' ⟨k', A', c', Q', rfl, h1, h3, _, h4⟩
  subst hi
  obtain ⟨rfl, rfl⟩ := h3 rfl
  subst hQ
  exact ⟨_, _, rfl, h1, h4⟩
theorem C_DropBad {k i r : Int} {A : Option Addr} {L : List En} {n c : Nat} (w : World) (hL : REn w A L) (hr : netAt k L i = r) (h0 : r ≠ 0) (hn : n = L.length) (hm : n ≤ maxLen) (wi : (Lit.int .i64 i).wf = true) :
    CallsR Try.prog 12 [.agg #[.int .i64 k, .slice A n c], .int .i64 i] w fun v w' => ∃ A' c', v = .tuple #[.agg #[.int .i64 0, .slice A' 0 c'], .int .i64 r] ∧ OwnEn w.heap.size w' w.heap.size w'.heap.size A' c' [] ∧ Below w.heap.size w w' := by
  refine (C_Drop w hL hr hn hm wi).mono ?_
  rintro v w' ⟨k', A', c', Q', rfl, h1, _, h3, h4⟩
  obtain ⟨rfl, rfl⟩ := h3 h0
  exact ⟨_, _, rfl, h1, h4⟩
def twiceErr (k : Int) (L : List En) (i : Int) : Int := if netAt k L i ≠ 0 then netAt k L i else if 512 ≤ L.length then 7 else 0
theorem C_TwiceOk {k i : Int} {j : Nat} {A : Option Addr} {L Q : List En} {x : En} {n c : Nat} (w : World) (hL : REn w A L) (hr : twiceErr k L i = 0) (hi : i = (j : Int)) (hj : j < L.length) (hx : L[j] = x) (hQ : L ++ [x] = Q) (hn : n = L.length) (hm : n ≤ maxLen) (wi : (Lit.int .i64 i).wf = true) :
    CallsR Try.prog 13 [.agg #[.int .i64 k, .slice A n c], .int .i64 i] w fun v w' => ∃ A' c', v = .tuple #[.agg #[.int .i64 k, .slice A' Q.length c'], .int .i64 0] ∧ OwnEn w.heap.size w' w.heap.size w'.heap.size A' c' Q ∧ Below w.heap.size w w' := by
  refine (C_Twice w hL hr hn hm wi).mono ?_
  rintro v w' ⟨k', A', c', Q', rfl, h1, h3, _, h4⟩
  subst hi
  obtain ⟨rfl, hl, rfl⟩ := h3 rfl
  subst hx; subst hQ
  exact ⟨_, _, rfl, h1, h4⟩
theorem C_TwiceBad {k i r : Int} {A : Option Addr} {L : List En} {n c : Nat} (w : World) (hL : REn w A L) (hr : twiceErr k L i = r) (h0 : r ≠ 0) (hn : n = L.length) (hm : n ≤ maxLen) (wi : (Lit.int .i64 i).wf = true) :
    CallsR Try.prog 13 [.agg #[.int .i64 k, .slice A n c], .int .i64 i] w fun v w' => ∃ A' c', v = .tuple #[.agg #[.int .i64 0, .slice A' 0 c'], .int .i64 r] ∧ OwnEn w.heap.size w' w.heap.size w'.heap.size A' c' [] ∧ Below w.heap.size w w' := by
  refine (C_Twice w hL hr hn hm wi).mono ?_
  rintro v w' ⟨k', A', c', Q', rfl, h1, _, h3, h4⟩
  obtain ⟨rfl, rfl⟩ := h3 h0
  exact ⟨_, _, rfl, h1, h4⟩
theorem C_ToOk {k i : Int} {A : Option Addr} {L : List En} {Z : List Int} {n c : Nat} (w : World) (hL : REn w A L) (hok : netOk k L = true) (hZ : placesN L i = Z) (hn : n = L.length) (hl : L.length ≤ 4000) :
    CallsR Try.prog 20 [.agg #[.int .i64 k, .slice A n c], .int .i64 i] w fun v w' => ∃ A' c', v = .slice A' Z.length c' ∧ OwnZ w' w.heap.size w'.heap.size A' c' Z ∧ Below w.heap.size w w' := by
  have := C_ToN (k := k) (i := i) (c := c) w hL hn hl
  rw [hok, if_pos rfl, hZ] at this
  exact this
theorem C_livesN (w : World) : CallsR Try.prog 7 [] w fun v w' => v = .bool true ∧ Below w.heap.size w w' := by
  obtain ⟨L1, hL1⟩ : ∃ L1 : List En, L1 = [(1, 0, [97]), (1, 2, [97])] := ⟨_, rfl⟩
  obtain ⟨L2, hL2⟩ : ∃ L2 : List En, L2 = [(1, 2, [97])] := ⟨_, rfl⟩
  have e1 : putErr 3 [] 1 (-1) [97] = 0 := by kernel_rfl
  have e2 : putMore 3 1 (-1) [97] = L1 := by rw [hL1]; kernel_rfl
  have e3 : [] ++ L1 = L1 := rfl
  have e4 : (L1.length : Int) = 2 := by rw [hL1]; rfl
  have e5 : netAt 3 L1 0 = 0 := by rw [hL1]; kernel_rfl
  have e6 : 0 < L1.length := by rw [hL1]; decide
  have e7 : L1[0] = (1, 0, [97]) := by subst hL1; rfl
  have l2 : 1 < L1.length := by rw [hL1]; decide
  have t0 : L1[0].2.1 = 0 := by subst hL1; rfl
  have t1 : L1[1].2.1 = 2 := by subst hL1; rfl
  have e8 : cutI L1 0 = L2 := by subst hL1; subst hL2; rfl
  have e9 : netOk 3 L2 = true := by rw [hL2]; kernel_rfl
  have e10 : placesN L2 2 = [0] := by rw [hL2]; kernel_rfl
  have e0 : (0 : Int) = ((0 : Nat) : Int) := rfl
  have m1 : L1.length ≤ maxLen := by simp only [maxLen]; omega
  have w0 : (Lit.int .i64 0).wf = true := by decide
  have e11 : (L2.length : Int) = 1 := by rw [hL2]; rfl
  refine callsR Try.func7 rfl rfl (by kernel_rfl) rfl ?_
  have hw := Below.refl w.heap.size w
  refine rk_seq ?_
  refine rk_region ?_
  refine wl_p (fun _ => o_assign rfl) ?_
  refine wl_nil ?_
  refine rk_seq ?_
  refine rk_region ?_
  refine wl_call rfl (C_NewOk _ (by omega) (by omega)) ?_
  rintro v9 w9 ⟨rfl, b9⟩
  have s9 := b9.size
  replace hw := hw.trans (b9.mono hw.size)
  refine wl_p (fun _ => o_move rfl) ?_
  refine wl_p (fun _ => o_ext20 rfl) ?_
  refine wl_p (fun _ => o_ext21 rfl) ?_
  refine wl_allocg [_, _] Try.zeroValue27 (by rfl) ?_
  rintro g1 w1 f1 b1 i1 i1_1
  have s1 := b1.size
  replace hw := hw.trans (b1.mono hw.size)
  refine wl_storega Try.sizeOf27 rfl rfl (by rfl) (by decide) f1 (by rfl) ?_
  rintro w_1 f g e
  have s := g.size
  replace hw := hw.trans (below_of_grownBy g.g hw.size (by omega))
  clear f1
  refine wl_p (fun _ => o_assign rfl) ?_
  refine wl_nil ?_
  refine rk_seq ?_
  refine rk_region ?_
  refine wl_r (o_loadag Try.isAgg27 Try.sizeOf27 rfl f (by rfl)) ?_
  refine wl_litC [97] Try.u8 Try.sizeOf5 Try.zeroValue5 (by rfl) rfl rfl (by rfl) (by rfl) (by rfl) ?_
  rintro A14 w14 f14 b14
  have s14 := b14.size
  replace hw := hw.trans (b14.mono hw.size)
  replace f := f.u b14
  refine wl_p (fun _ => (o_buildg [_, _] Try.underlying34 Try.zeroValue34 (by rfl) (by rfl) rfl (by rfl) (by rfl) (fun _ => by kernel_rfl))) ?_
  refine wl_call rfl (C_PutOk _ (REn.nil_) f14.to_Rd e1 e2 e3 e4 (by rfl) (by omega) (by rfl) (by omega) (by rfl) (by rfl)) ?_
  rintro v17 w17 ⟨A17, ⟨c17, ⟨rfl, ⟨f17, b17⟩⟩⟩⟩
  have qf17 := f17.cap
  have s17 := b17.size
  replace hw := hw.trans (b17.mono hw.size)
  replace f := f.u b17
  replace f14 := f14.u b17
  refine wl_p (fun _ => o_move rfl) ?_
  refine wl_p (fun _ => o_ext30 rfl) ?_
  refine wl_p (fun _ => o_ext31 rfl) ?_
  refine wl_p (fun _ => o_ext32 rfl) ?_
  refine wl_storega Try.sizeOf27 rfl rfl (by rfl) (oneCell_of (by rfl)) f (by rfl) ?_
  rintro w_2 f_1 g_1 e_1
  have s_1 := g_1.size
  replace hw := hw.trans (below_of_grownBy g_1.g hw.size (by omega))
  replace f14 := f14.y g_1 (by decide)
  replace f17 := f17.y g_1 (by decide)
  clear f
  refine wl_p (fun _ => o_assign rfl) ?_
  refine wl_p (fun _ => o_assign rfl) ?_
  refine wl_nil ?_
  refine rk_seq ?_
  refine rk_region ?_
  refine wl_r (o_loadag Try.isAgg27 Try.sizeOf27 rfl f_1 (by rfl)) ?_
  refine wl_call rfl (C_TakeOk _ f17.to_REn e5 (by omega) (by omega) (by rfl) e8 rfl (by omega) w0) ?_
  rintro v23 w23 ⟨A123, ⟨c123, ⟨A23, ⟨c23, ⟨rfl, ⟨f23, ⟨f23_1, b23⟩⟩⟩⟩⟩⟩⟩
  have qf23 := f23.cap
  have qf23_1 := f23_1.cap
  have s23 := b23.size
  replace hw := hw.trans (b23.mono hw.size)
  replace f17 := f17.u b23
  replace f14 := f14.u b23
  replace f_1 := f_1.u b23
  refine wl_p (fun _ => o_move rfl) ?_
  refine wl_p (fun _ => o_ext30 rfl) ?_
  refine wl_p (fun _ => o_ext31 rfl) ?_
  refine wl_p (fun _ => o_ext32 rfl) ?_
  refine wl_allocg [_, _, _] Try.zeroValue38 (by rfl) ?_
  rintro g5 w5 f5 b5 i5 i5_1
  have s5 := b5.size
  replace hw := hw.trans (b5.mono hw.size)
  replace f_1 := f_1.u b5
  replace f14 := f14.u b5
  replace f17 := f17.u b5
  replace f23_1 := f23_1.u b5
  replace f23 := f23.u b5
  refine wl_allocg [_, _] Try.zeroValue27 (by rfl) ?_
  rintro g6 w6 f6 b6 i6 i6_1
  have s6 := b6.size
  replace hw := hw.trans (b6.mono hw.size)
  replace f23 := f23.u b6
  replace f23_1 := f23_1.u b6
  replace f17 := f17.u b6
  replace f14 := f14.u b6
  replace f_1 := f_1.u b6
  replace f5 := f5.u b6
  refine wl_storega Try.sizeOf38 rfl rfl (by rfl) (oneCell_of (by rfl)) f5 (by rfl) ?_
  rintro w_3 f g_2 e_2
  have s_2 := g_2.size
  replace hw := hw.trans (below_of_grownBy g_2.g hw.size (by omega))
  replace f_1 := f_1.k g_2.g (ap_some (by omega))
  replace f14 := f14.y g_2 (by decide)
  replace f17 := f17.q g_2 (ap_some (by omega)) (by decide)
  replace f23_1 := f23_1.k g_2.g (ap_some (by omega))
  replace f23 := f23.q g_2 (ap_some (by omega)) (by decide)
  replace f6 := f6.k g_2.g (ap_some (by omega))
  clear f5
  refine wl_storega Try.sizeOf27 rfl rfl (by rfl) (oneCell_of (by rfl)) f6 (by rfl) ?_
  rintro w_4 f_2 g_3 e_3
  have s_3 := g_3.size
  replace hw := hw.trans (below_of_grownBy g_3.g hw.size (by omega))
  replace f23 := f23.y g_3 (by decide)
  replace f23_1 := f23_1.k g_3.g (ap_some (by omega))
  replace f17 := f17.y g_3 (by decide)
  replace f14 := f14.y g_3 (by decide)
  replace f_1 := f_1.k g_3.g (ap_some (by omega))
  replace f := f.k g_3.g (ap_some (by omega))
  clear f6
  refine wl_p (fun _ => o_assign rfl) ?_
  refine wl_nil ?_
  refine rk_seq ?_
  refine rk_region ?_
  refine wl_p (fun _ => o_move rfl) ?_
  refine wl_p (fun _ => o_eq rfl rfl) ?_
  refine wl_p (fun _ => o_move rfl) ?_
  refine wl_p (fun _ => o_move rfl) ?_
  refine wl_p (fun _ => o_eq rfl rfl) ?_
  refine wl_p (fun _ => o_pick_t rfl rfl) ?_
  refine wl_p (fun _ => o_move rfl) ?_
  refine wl_p (fun _ => o_move rfl) ?_
  refine wl_p (fun _ => o_eq rfl rfl) ?_
  refine wl_p (fun _ => o_pick_t rfl rfl) ?_
  refine wl_p (fun _ => o_move rfl) ?_
  refine wl_p (fun _ => o_faddr (s := 27) (i := 1) (off := 1) Try.underlying27 rfl Try.sizeOf25 rfl rfl rfl) ?_
  refine wl_r (o_loadbg Try.isAgg25 rfl f_1 (by rfl)) ?_
  refine wl_p (fun _ => o_len (t := 25) Try.underlying25 rfl) ?_
  refine wl_p (fun _ => o_eq rfl rfl) ?_
  refine wl_p (fun _ => o_pick_t rfl rfl) ?_
  refine wl_p (fun _ => o_move rfl) ?_
  refine wl_know 43 true rfl (decide_eq_true (by omega)) ?_
  refine wl_p (fun _ => o_faddr (s := 27) (i := 1) (off := 1) Try.underlying27 rfl Try.sizeOf25 rfl rfl rfl) ?_
  refine wl_r (o_loadbg Try.isAgg25 rfl f_1 (by rfl)) ?_
  refine wl_p (fun _ => (o_iaddrA (0) Try.underlying25 Try.sizeOf38 rfl rfl (by omega) (f17.some_ (by omega)) (by omega))) ?_
  refine wl_p (fun _ => (o_faddrR rfl Try.underlying38 (by rfl) Try.sizeOf3 (by rfl) (by rfl))) ?_
  refine wl_r (o_ldTo rfl f17.to_REn (Below.refl _ _) (by omega)) ?_
  refine wl_p (fun _ => o_eq rfl rfl) ?_
  refine wl_p (fun _ => o_pick_t rfl rfl) ?_
  refine wl_p (fun _ => o_move rfl) ?_
  refine wl_know 51 true rfl (decide_eq_true (by omega)) ?_
  refine wl_p (fun _ => o_faddr (s := 27) (i := 1) (off := 1) Try.underlying27 rfl Try.sizeOf25 rfl rfl rfl) ?_
  refine wl_r (o_loadbg Try.isAgg25 rfl f_1 (by rfl)) ?_
  refine wl_p (fun _ => (o_iaddrA (1) Try.underlying25 Try.sizeOf38 rfl rfl (by omega) (f17.some_ (by omega)) (by omega))) ?_
  refine wl_p (fun _ => (o_faddrR rfl Try.underlying38 (by rfl) Try.sizeOf3 (by rfl) (by rfl))) ?_
  refine wl_r (o_ldTo rfl f17.to_REn (Below.refl _ _) (by omega)) ?_
  refine wl_p (fun _ => o_eq rfl rfl) ?_
  refine wl_p (fun _ => o_pick_t rfl rfl) ?_
  refine wl_p (fun _ => o_move rfl) ?_
  refine wl_know 59 true rfl (decide_eq_true (by omega)) ?_
  refine wl_p (fun _ => o_move rfl) ?_
  refine wl_p (fun _ => o_eq rfl rfl) ?_
  refine wl_p (fun _ => o_pick_t rfl rfl) ?_
  refine wl_p (fun _ => o_move rfl) ?_
  refine wl_p (fun _ => o_faddr (s := 38) (i := 1) (off := 1) Try.underlying38 rfl Try.sizeOf3 rfl rfl rfl) ?_
  refine wl_r (o_loadbg Try.isAgg3 rfl f (by rfl)) ?_
  refine wl_p (fun _ => o_eq rfl rfl) ?_
  refine wl_p (fun _ => o_pick_t rfl rfl) ?_
  refine wl_p (fun _ => o_move rfl) ?_
  refine wl_know 68 true rfl (decide_eq_true (by omega)) ?_
  refine wl_r (o_loadag Try.isAgg27 Try.sizeOf27 rfl f_2 (by rfl)) ?_
  refine wl_call rfl (C_ToOk _ f23.to_REn e9 e10 rfl (by omega)) ?_
  rintro v70 w70 ⟨A70, ⟨c70, ⟨rfl, ⟨f70, b70⟩⟩⟩⟩
  have qf70 := f70.cap
  have s70 := b70.size
  replace hw := hw.trans (b70.mono hw.size)
  replace f := f.u b70
  replace f_1 := f_1.u b70
  replace f14 := f14.u b70
  replace f17 := f17.u b70
  replace f23_1 := f23_1.u b70
  replace f23 := f23.u b70
  replace f_2 := f_2.u b70
  refine wl_litZH [0] (by rfl) rfl rfl (by rfl) (by rfl) (by rfl) ?_
  rintro A71 w71 f71 b71
  have qf71 := f71.cap
  have s71 := b71.size
  replace hw := hw.trans (b71.mono hw.size)
  replace f_2 := f_2.u b71
  replace f23 := f23.u b71
  replace f23_1 := f23_1.u b71
  replace f17 := f17.u b71
  replace f14 := f14.u b71
  replace f_1 := f_1.u b71
  replace f := f.u b71
  replace f70 := f70.u b71
  refine wl_call rfl (C_IntsZ _ f70.to_RZ f71.to_RZ rfl (by rfl) (by omega) (by omega)) ?_
  rintro v72 w72 ⟨rfl, b72⟩
  have s72 := b72.size
  replace hw := hw.trans (b72.mono hw.size)
  replace f70 := f70.u b72
  replace f := f.u b72
  replace f_1 := f_1.u b72
  replace f14 := f14.u b72
  replace f17 := f17.u b72
  replace f23_1 := f23_1.u b72
  replace f23 := f23.u b72
  replace f_2 := f_2.u b72
  replace f71 := f71.u b72
  refine wl_p (fun _ => o_pick_t rfl rfl) ?_
  refine wl_p (fun _ => o_assign rfl) ?_
  refine wl_nil ?_
  refine ret1 rfl rfl ?_
  exact ⟨congrArg Value.bool (decide_eq_true rfl), hw⟩
end Go.Proofs.Ytaldpegegekbjaa
