/-
  Walks of package ops: the bytes of ops.
-/
import Derived.Test.YtahkeoegbjopfaaMg7
import GoSem.Op.String
namespace Go.Proofs.Ytahkeoegbjopfaa
open Go.RowKit
theorem C_opsBytes {A : Option Addr} {L : List Opn} {n c : Nat} (w : World) (hL : RO w A L) (hn : n = L.length) (hln : L.length ≤ 4000000) (hl : ∀ o ∈ L, o.2.1.length ≤ 4000000 ∧ o.2.2.1.length ≤ 4000000) :
    CallsR Try.prog 10 [.slice A n c] w fun v w' => ∃ A' c', v = .tuple #[.slice A' (bytesO L).1.length c', .int .i64 ((bytesO L).2 : Int)] ∧ OwnH w' w.heap.size w'.heap.size A' c' (bytesO L).1 ∧ Below w.heap.size w w' := by
  subst hn
  unfold bytesO
  refine callsR Try.func10 rfl rfl (by kernel_rfl) rfl ?_
  have hw := Below.refl w.heap.size w
  refine rk_seq ?_
  refine rk_region ?_
  refine wl_p (fun _ => o_assign rfl) ?_
  refine wl_p (fun _ => o_assign rfl) ?_
  refine wl_nil ?_
  refine rk_seq ?_
  refine rk_seq ?_
  refine rk_region ?_
  refine wl_p (fun _ => o_move rfl) ?_
  refine wl_p (fun _ => o_len (t := 22) Try.underlying22 rfl) ?_
  refine wl_p (fun _ => o_gt rfl rfl) ?_
  refine wl_nil ?_
  refine rk_if rfl (fun h11 => ?_) (fun h11 => ?_)
  · rw [if_pos (by omega)]
    refine rk_seq ?_
    refine rk_region ?_
    refine wl_p (fun _ => o_assign rfl) ?_
    refine wl_p (fun _ => o_assign rfl) ?_
    refine wl_nil ?_
    refine ret2 rfl rfl rfl ?_
    exact ⟨_, _, rfl, OwnH.nil_, hw⟩
  rw [if_neg (by omega)]
  refine rk_skip ?_
  refine rk_seq ?_
  refine rk_region ?_
  refine wl_p (fun _ => o_move rfl) ?_
  refine wl_p (fun _ => o_len (t := 22) Try.underlying22 rfl) ?_
  refine wl_p (fun _ => o_convi (src := 3) (dst := 5) Try.underlying3 Try.underlying5 rfl) ?_
  rw [u8w (n := L.length) (by omega)]
  refine wl_litB [UInt8.ofNat L.length] Try.u8 Try.sizeOf5 Try.zeroValue5 (by rfl) rfl rfl (by rfl) (by rfl) (by rfl) ?_
  rintro A15 w15 f15 b15
  have qf15 := f15.cap
  have s15 := b15.size
  replace hw := hw.trans (b15.mono hw.size)
  refine wl_p (fun _ => o_assign rfl) ?_
  refine wl_nil ?_
  refine rk_seq ?_
  refine rk_seq ?_
  refine rk_region ?_
  refine wl_p (fun _ => o_move rfl) ?_
  refine wl_p (fun _ => o_len (t := 22) Try.underlying22 rfl) ?_
  refine wl_p (fun _ => o_move rfl) ?_
  refine wl_nil ?_
  refine rk_block ?_
  refine rk_joinf (fun fb fr w3 => ∃ A' c', fr = [(4, .slice A' (UInt8.ofNat L.length :: L.flatMap opB).length c')] ++ fb.drop 1 ∧ L.all okO = true ∧ OwnH w3 w.heap.size w3.heap.size A' c' (UInt8.ofNat L.length :: L.flatMap opB) ∧ Below w.heap.size w w3) ?_ (fun ks hj => ?_)
  rotate_left
  · refine rk_loopf (fun fb m fr w3 => ∃ (i : Nat) (v : Int) (A' : Option Addr) (bs : By) (c' : Nat), fr = [(18, .int .i64 v), (4, .slice A' bs.length c')] ++ fb ∧ v = i ∧ i ≤ L.length ∧ m = L.length - i ∧ bs = UInt8.ofNat L.length :: (L.take i).flatMap opB ∧ (L.take i).all okO = true ∧ bs.length ≤ 1 + 71 * i ∧ OwnH w3 w.heap.size w3.heap.size A' c' bs ∧ Below w.heap.size w w3) (n := L.length) (Fr.le_of (by kernel_rfl) (by kernel_rfl) (by repeat' constructor)) ⟨0, _, A15, _, _, rfl, rfl, by omega, rfl, by simp, by simp, by simp, f15, hw⟩ ?_
    clear hw f15
    rintro m fr w3 ⟨i, v, A', bs, c', rfl, rfl, hi, rfl, hbs, hok, hbl, fo, hw⟩
    have shw := hw.size
    first | refine rk_frame (by simp only [List.cons_append, List.nil_append, List.drop_succ_cons, List.drop_zero]; rfl) ?_ | refine wl_frame (by simp only [List.cons_append, List.nil_append, List.drop_succ_cons, List.drop_zero]; rfl) ?_
    refine rk_seq ?_
    refine rk_region ?_
    refine wl_p (fun _ => o_lt rfl rfl) ?_
    refine wl_nil ?_
    refine rk_seq ?_
    refine rk_if rfl (fun h19 => ?_) (fun h19 => ?_)
    · have hil : i < L.length := by omega
      obtain ⟨n1, n2⟩ := hl _ (List.getElem_mem hil)
      cases hgk : okOp L[i].1 L[i].2.1.length L[i].2.2.1.length L[i].2.2.2
      · rw [if_neg (fun h => by have := List.all_eq_true.1 h _ (List.getElem_mem hil); unfold okO at this; rw [hgk] at this; cases this)]
        refine rk_skip ?_
        refine rk_seq ?_
        refine rk_block ?_
        refine rk_seq ?_
        refine rk_region ?_
        refine wl_p (fun _ => (o_iaddrA (i) Try.underlying22 Try.sizeOf31 rfl rfl rfl (hL.some_ (by omega)) (by omega))) ?_
        refine wl_ldOp rfl hL hw (by omega) ?_
        rintro K21 c21 V21 d21 f21 f21_1 i21 i21_1 i21_2 i21_3 e21
        refine wl_allocOp ?_
        rintro g6 w6 f6 b6 i6 i6_1
        have s6 := b6.size
        replace hw := hw.trans (b6.mono hw.size)
        replace fo := fo.u b6
        refine wl_stOpB rfl f6 rfl ?_
        rintro w_1 f g e
        have s := g.size
        replace hw := hw.trans (below_of_grownBy g.g hw.size (by omega))
        replace fo := fo.k g.g (ap_some (by omega))
        clear f6
        refine wl_nil ?_
        refine rk_seq ?_
        refine rk_seq ?_
        refine rk_region ?_
        refine wl_r (o_loadag Try.isAgg31 Try.sizeOf31 rfl f (opC_length ..)) ?_
        refine wl_call rfl (C_opsCheckBad _ (by omega) (by omega) hgk) ?_
        rintro v23 w23 ⟨rfl, b23⟩
        have s23 := b23.size
        replace hw := hw.trans (b23.mono hw.size)
        replace fo := fo.u b23
        replace f := f.u b23
        refine wl_p (fun _ => o_ne rfl rfl) ?_
        refine wl_nil ?_
        refine rk_true rfl ?_
        refine rk_seq ?_
        refine rk_region ?_
        refine wl_p (fun _ => o_assign rfl) ?_
        refine wl_p (fun _ => o_assign rfl) ?_
        refine wl_nil ?_
        refine ret2 rfl rfl rfl ?_
        exact ⟨_, _, rfl, OwnH.nil_, hw⟩
      · obtain ⟨q1, q2, q3⟩ := okOp_of hgk
        refine rk_skip ?_
        refine rk_seq ?_
        refine rk_block ?_
        refine rk_seq ?_
        refine rk_region ?_
        refine wl_p (fun _ => (o_iaddrA (i) Try.underlying22 Try.sizeOf31 rfl rfl rfl (hL.some_ (by omega)) (by omega))) ?_
        refine wl_ldOp rfl hL hw (by omega) ?_
        rintro K21 c21 V21 d21 f21 f21_1 i21 i21_1 i21_2 i21_3 e21
        refine wl_allocOp ?_
        rintro g6 w6 f6 b6 i6 i6_1
        have s6 := b6.size
        replace hw := hw.trans (b6.mono hw.size)
        replace fo := fo.u b6
        refine wl_stOpB rfl f6 rfl ?_
        rintro w_1 f g e
        have s := g.size
        replace hw := hw.trans (below_of_grownBy g.g hw.size (by omega))
        replace fo := fo.k g.g (ap_some (by omega))
        clear f6
        refine wl_nil ?_
        refine rk_seq ?_
        refine rk_seq ?_
        refine rk_region ?_
        refine wl_r (o_loadag Try.isAgg31 Try.sizeOf31 rfl f (opC_length ..)) ?_
        refine wl_call rfl (C_opsCheckOk _ (by omega) (by omega) hgk) ?_
        rintro v23 w23 ⟨rfl, b23⟩
        have s23 := b23.size
        replace hw := hw.trans (b23.mono hw.size)
        replace fo := fo.u b23
        replace f := f.u b23
        refine wl_p (fun _ => o_ne rfl rfl) ?_
        refine wl_nil ?_
        refine rk_false rfl ?_
        refine rk_skip ?_
        refine rk_seq ?_
        refine rk_region ?_
        refine wl_p (fun _ => o_faddr (s := 31) (i := 0) (off := 0) Try.underlying31 rfl Try.sizeOf3 rfl rfl rfl) ?_
        refine wl_r (o_loadbg Try.isAgg3 rfl f (by rfl)) ?_
        refine wl_call rfl (C_formOk _ (by omega) (by omega)) ?_
        rintro v28 w28 ⟨gf28, ⟨pf28, ⟨rf28, ⟨df28, ⟨rfl, ⟨i28, b28⟩⟩⟩⟩⟩⟩
        have s28 := b28.size
        replace hw := hw.trans (b28.mono hw.size)
        replace f := f.u b28
        replace fo := fo.u b28
        refine wl_p (fun _ => o_move rfl) ?_
        refine wl_p (fun _ => o_ext20 rfl) ?_
        refine wl_p (fun _ => o_ext21 rfl) ?_
        refine wl_allocg [_, _, _, _] Try.zeroValue69 (by rfl) ?_
        rintro g7 w7 f7 b7 i7 i7_1
        have s7 := b7.size
        replace hw := hw.trans (b7.mono hw.size)
        replace fo := fo.u b7
        replace f := f.u b7
        refine wl_storega Try.sizeOf69 rfl rfl (by rfl) (oneCell_of (by rfl)) f7 (by rfl) ?_
        rintro w_2 f_1 g_1 e_1
        have s_1 := g_1.size
        replace hw := hw.trans (below_of_grownBy g_1.g hw.size (by omega))
        replace f := f.k g_1.g (ap_some (by omega))
        replace fo := fo.k g_1.g (ap_some (by omega))
        clear f7
        refine wl_p (fun _ => o_assign rfl) ?_
        refine wl_nil ?_
        refine rk_drawoR (w.heap.size) (w3.heap.size) (id := 10) (none) [0, 1, 0, 0, 8, 16, 32, 68, 0, 386, 1023] [0, 1, 0, 0, 8, 24, 56, 124, 0, 511, 1023] 704 192 [0, 1, 2, 3, 4, 5, 8, 6, 7, 9, 10] [(.p, 0), (.s, 1), (.p, 2), (.p, 3), (.r, 4), (.p, 5), (.s, 8), (.c, 6), (.c, 7), (.l, 9), (.p, 10)] (by kernel_rfl) (by kernel_rfl) (by kernel_rfl) (by kernel_rfl) (by kernel_rfl) ?_; dsimp only [inOrder, nthOp]
        replace f := f.d
        replace f_1 := f_1.d
        replace fo := fo.d
        replace hw := hw.drew
        have hkw : IntKind.u8.wrap L[i].1 = ((UInt8.ofNat L[i].1.toNat).toNat : Int) := by
          rw [← u8w (n := L[i].1.toNat) (by omega), Int.toNat_of_nonneg (by omega)]
        refine wl_p (fun _ => o_faddr (s := 69) (i := 1) (off := 1) Try.underlying69 rfl Try.sizeOf65 rfl rfl rfl) ?_
        refine wl_s (fun _ hk => (o_loadbg Try.isAgg65 rfl (f_1.c (chg_of_ok hk) (by omega)) (by rfl))) ?_
        refine wl_p (fun _ => o_move rfl) ?_
        refine wl_p (fun _ => o_faddr (s := 31) (i := 0) (off := 0) Try.underlying31 rfl Try.sizeOf3 rfl rfl rfl) ?_
        refine wl_r (o_loadbg Try.isAgg3 rfl f (by rfl)) ?_
        refine wl_p (fun _ => o_convi (src := 3) (dst := 5) Try.underlying3 Try.underlying5 rfl) ?_
        refine wl_s (fun _ hk => (o_loadag Try.isAgg31 Try.sizeOf31 rfl (f.c (chg_of_ok hk) (by omega)) (opC_length ..))) ?_
        rw [hkw]
        refine wl_litB [UInt8.ofNat L[i].fst.toNat] Try.u8 Try.sizeOf5 Try.zeroValue5 (by rfl) rfl rfl (by rfl) (by rfl) (by rfl) ?_
        rintro A37 w37 f37 b37
        simp only [drew_size] at f37
        simp only [drew_size] at b37
        have qf37 := f37.cap
        have s37 := b37.size
        simp only [drew_size] at s37
        replace hw := hw.trans (b37.mono hw.size)
        replace fo := fo.u b37
        replace f_1 := f_1.u b37
        replace f := f.u b37
        refine wl_appBm Try.u8 rfl fo rfl rfl f37.to_Rd rfl (by simp; omega) (by omega) ?_ (hq := .inr (.inr (OwnH.rng fo)))
        intro A38 c38 w38 f38 g38 b38
        replace f_1 := f_1.y g38 (by decide)
        replace f := f.y g38 (by decide)
        replace hw := hw.trans b38
        clear f37 fo
        obtain ⟨r1, r2⟩ := goodS_le q3
        have r3 := tailS_le (k := L[i].1) (u := L[i].2.2.2) r1 r2
        refine wl_callf (xs := [_, _]) (cs := []) rfl rfl (sh4_put i28 w38 f38 (f21.below hw) (f21_1.below hw) rfl rfl (by simp; omega) n1 n2 hw.size) ?_
        rintro _ w40 ⟨A40, c40, rfl, f40, g40, b40⟩
        replace hw := hw.trans b40
        clear f38 f f_1
        refine wl_p (fun _ => o_assign rfl) ?_
        refine wl_nild ?_
        refine rk_blk ?_
        refine rk_region ?_
        refine wl_p (fun _ => o_add rfl rfl (by omega) (by omega)) ?_
        refine wl_p (fun _ => o_move rfl) ?_
        refine wl_nil ?_
        exact rk_againf (Fr.le_of (by kernel_rfl) (by kernel_rfl) (by repeat' constructor)) ⟨i + 1, (i : Int) + 1, A40, _, c40, rfl, by omega, by omega, rfl, by
          rw [List.take_succ_eq_append_getElem hil, List.flatMap_append, List.flatMap_singleton, hbs, opB]
          simp, by
          rw [List.take_succ_eq_append_getElem hil, List.all_append, hok]
          simp [okO, hgk], by simp only [List.length_append, List.length_singleton]; omega, f40, hw⟩ (by omega)
    · refine rk_exit rfl ?_
      have e : i = L.length := by omega
      subst e
      rw [List.take_length] at hok hbs
      subst hbs
      exact rk_tof hj (Fr.le_of (by kernel_rfl) (by kernel_rfl) (by repeat' constructor)) ⟨A', c', rfl, hok, fo, hw⟩
  clear hw f15
  rintro fr w3 ⟨A', c', rfl, hok, fo, hw⟩
  have shw := hw.size
  rw [if_pos hok]
  first | refine rk_frame (by simp only [List.cons_append, List.nil_append, List.drop_succ_cons, List.drop_zero]; rfl) ?_ | refine wl_frame (by simp only [List.cons_append, List.nil_append, List.drop_succ_cons, List.drop_zero]; rfl) ?_
  refine rk_seq ?_
  refine rk_region ?_
  refine wl_p (fun _ => o_move rfl) ?_
  refine wl_p (fun _ => o_assign rfl) ?_
  refine wl_p (fun _ => o_assign rfl) ?_
  refine wl_nil ?_
  refine ret2 rfl rfl rfl ?_
  exact ⟨A', c', rfl, fo, hw⟩
end Go.Proofs.Ytahkeoegbjopfaa
/-
  Bytes compared as strings.
-/
namespace Go.Proofs.Ytahkeoegbjopfaa
open Go.RowKit
theorem C_bEqual {A B : Option Addr} {a b : List UInt8} {n m c d : Nat} (w : World) (hA : Rd w A a) (hB : Rd w B b) (hn : n = a.length) (hm : m = b.length) :
    CallsR Try.prog 48 [.slice A n c, .slice B m d] w fun v w' => v = .bool (decide (a = b)) ∧ Below w.heap.size w w' := by
  subst hn; subst hm
  refine callsR Try.func48 rfl rfl (by kernel_rfl) rfl ?_
  have hw := Below.refl w.heap.size w
  refine rk_seq ?_
  refine rk_region ?_
  refine wl_p (fun _ => o_assign rfl) ?_
  refine wl_nil ?_
  refine rk_seq ?_
  refine rk_region ?_
  refine wl_p (fun _ => o_move rfl) ?_
  refine wl_r (o_strU Try.underlying23 Try.underlying5 Try.underlying9 rfl hA hw rfl) ?_
  refine wl_p (fun _ => o_move rfl) ?_
  refine wl_r (o_strU Try.underlying23 Try.underlying5 Try.underlying9 rfl hB hw rfl) ?_
  refine wl_p (fun _ => o_seq rfl rfl) ?_
  refine wl_p (fun _ => o_assign rfl) ?_
  refine wl_nil ?_
  refine ret1 rfl rfl ?_
  exact ⟨rfl, hw⟩
end Go.Proofs.Ytahkeoegbjopfaa
/-
  Walks of package ops: whether ops and states are the same.
-/
namespace Go.Proofs.Ytahkeoegbjopfaa
open Go.RowKit
theorem C_equalK {A B : Option Addr} {L M : List Ky} {n c m d : Nat} (w : World) (hA : RKs w A L) (hB : RKs w B M) (hn : n = L.length) (hm : m = M.length) (hl : L.length ≤ 4000000) (hl2 : M.length ≤ 4000000) :
    CallsR Try.prog 47 [.slice A n c, .slice B m d] w fun v w' => v = .bool (decide (L = M)) ∧ Below w.heap.size w w' := by
  subst hn; subst hm
  refine callsR Try.func47 rfl rfl (by kernel_rfl) rfl ?_
  have hw := Below.refl w.heap.size w
  refine rk_seq ?_
  refine rk_region ?_
  refine wl_p (fun _ => o_assign rfl) ?_
  refine wl_nil ?_
  refine rk_seq ?_
  refine rk_seq ?_
  refine rk_region ?_
  refine wl_p (fun _ => o_move rfl) ?_
  refine wl_p (fun _ => o_len (t := 25) Try.underlying25 rfl) ?_
  refine wl_p (fun _ => o_move rfl) ?_
  refine wl_p (fun _ => o_len (t := 25) Try.underlying25 rfl) ?_
  refine wl_p (fun _ => o_ne rfl rfl) ?_
  refine wl_nil ?_
  refine rk_if rfl (fun h10 => ?_) (fun h10 => ?_)
  · refine rk_seq ?_
    refine rk_region ?_
    refine wl_p (fun _ => o_assign rfl) ?_
    refine wl_nil ?_
    refine ret1 rfl rfl ?_
    exact ⟨by rw [decide_eq_false (fun e : L = M => h10 (by rw [e]))], hw⟩
  refine rk_skip ?_
  refine rk_seq ?_
  refine rk_seq ?_
  refine rk_region ?_
  refine wl_p (fun _ => o_move rfl) ?_
  refine wl_p (fun _ => o_len (t := 25) Try.underlying25 rfl) ?_
  refine wl_p (fun _ => o_move rfl) ?_
  refine wl_nil ?_
  refine rk_block ?_
  refine rk_joinf (fun fb fr w2 => fr = [] ++ fb.drop 1 ∧ L = M ∧ Below w.heap.size w w2) ?_ (fun ks hj => ?_)
  rotate_left
  · refine rk_loopf (fun fb m fr w2 => ∃ (i : Nat) (v : Int), fr = [(13, .int .i64 v)] ++ fb.drop 1 ∧ v = i ∧ i ≤ L.length ∧ m = L.length - i ∧ L.take i = M.take i ∧ Below w.heap.size w w2) (n := L.length) (Fr.le_of (by kernel_rfl) (by kernel_rfl) (by repeat' constructor)) ⟨0, _, rfl, rfl, by omega, rfl, rfl, hw⟩ ?_
    clear hw
    rintro m fr w2 ⟨i, v, rfl, rfl, hi, rfl, ht, hw⟩
    have shw := hw.size
    first | refine rk_frame (by simp only [List.cons_append, List.nil_append, List.drop_succ_cons, List.drop_zero]; rfl) ?_ | refine wl_frame (by simp only [List.cons_append, List.nil_append, List.drop_succ_cons, List.drop_zero]; rfl) ?_
    refine rk_seq ?_
    refine rk_region ?_
    refine wl_p (fun _ => o_lt rfl rfl) ?_
    refine wl_nil ?_
    refine rk_seq ?_
    refine rk_if rfl (fun h14 => ?_) (fun h14 => ?_)
    · have hiL : i < L.length := by omega
      have hiM : i < M.length := by omega
      refine rk_skip ?_
      refine rk_seq ?_
      refine rk_block ?_
      refine rk_seq ?_
      refine rk_region ?_
      refine wl_p (fun _ => o_move rfl) ?_
      refine wl_p (fun _ => o_assign rfl) ?_
      refine wl_nil ?_
      refine rk_seq ?_
      refine rk_draw (id := 6) (none) [0, 0, 3, 4, 0, 0, 48, 64, 136] [0, 0, 3, 7, 0, 0, 48, 112, 255] 0 0 [(.p, 0), (.p, 1), (.p, 2), (.r, 3), (.p, 4), (.p, 5), (.p, 6), (.r, 7), (.p, 8)] (by kernel_rfl) (by kernel_rfl) (by kernel_rfl) (by kernel_rfl) (by kernel_rfl) ?_
      replace hw := hw.drew
      refine wl_p (fun _ => o_move rfl) ?_
      refine wl_p (fun _ => o_move rfl) ?_
      refine wl_p (fun _ => (o_iaddrA (i) Try.underlying25 Try.sizeOf29 rfl rfl rfl (hA.some_ (by omega)) (by omega))) ?_
      refine wl_r (o_ldKs rfl hA hw (by omega)) ?_
      refine wl_p (fun _ => o_move rfl) ?_
      refine wl_p (fun _ => o_move rfl) ?_
      refine wl_p (fun _ => (o_iaddrA (i) Try.underlying25 Try.sizeOf29 rfl rfl rfl (hB.some_ (by omega)) (by omega))) ?_
      refine wl_r (o_ldKs rfl hB hw (by omega)) ?_
      refine wl_p (fun _ => (o_neKy rfl rfl)) ?_
      refine wl_nild ?_
      refine rk_if rfl (fun h24 => ?_) (fun h24 => ?_)
      · refine rk_seq ?_
        refine rk_region ?_
        refine wl_p (fun _ => o_assign rfl) ?_
        refine wl_nil ?_
        refine ret1 rfl rfl ?_
        exact ⟨by rw [decide_eq_false (fun e : L = M => h24 (by subst e; rfl))], hw⟩
      · refine rk_skip ?_
        refine rk_blk ?_
        refine rk_region ?_
        refine wl_p (fun _ => o_add rfl rfl (by omega) (by omega)) ?_
        refine wl_p (fun _ => o_move rfl) ?_
        refine wl_nil ?_
        exact rk_againf (Fr.le_of (by kernel_rfl) (by kernel_rfl) (by repeat' constructor)) ⟨i + 1, (i : Int) + 1, rfl, by omega, by omega, rfl, by rw [List.take_succ_eq_append_getElem hiL, List.take_succ_eq_append_getElem hiM, ht, Decidable.of_not_not h24], hw⟩ (by omega)
    · refine rk_exit rfl ?_
      have e : L = M := by
        rw [List.take_of_length_le (by omega), List.take_of_length_le (by omega)] at ht
        exact ht
      exact rk_tof hj (Fr.le_of (by kernel_rfl) (by kernel_rfl) (by repeat' constructor)) ⟨rfl, e, hw⟩
  clear hw
  rintro fr w2 ⟨rfl, e, hw⟩
  first | refine rk_frame (by simp only [List.cons_append, List.nil_append, List.drop_succ_cons, List.drop_zero]; rfl) ?_ | refine wl_frame (by simp only [List.cons_append, List.nil_append, List.drop_succ_cons, List.drop_zero]; rfl) ?_
  refine rk_seq ?_
  refine rk_region ?_
  refine wl_p (fun _ => o_assign rfl) ?_
  refine wl_nil ?_
  refine ret1 rfl rfl ?_
  exact ⟨by rw [decide_eq_true e], hw⟩
theorem C_sameItem {A1 A2 B1 B2 : Option Addr} {a1 a2 b1 b2 : By} {c1 c2 d1 d2 n1 n2 m1 m2 : Nat} (w : World) (h1 : Rd w A1 a1) (h2 : Rd w A2 a2) (h3 : Rd w B1 b1) (h4 : Rd w B2 b2) (e1 : n1 = a1.length) (e2 : n2 = a2.length) (e3 : m1 = b1.length) (e4 : m2 = b2.length) :
    CallsR Try.prog 46 [.agg #[.slice A1 n1 c1, .slice A2 n2 c2], .agg #[.slice B1 m1 d1, .slice B2 m2 d2]] w fun v w' => v = .bool (decide ((a1, a2) = (b1, b2))) ∧ Below w.heap.size w w' := by
  subst e1; subst e2; subst e3; subst e4
  refine callsR Try.func46 rfl rfl (by kernel_rfl) rfl ?_
  have hw := Below.refl w.heap.size w
  by_cases ha : a1 = b1
  · refine rk_seq ?_
    refine rk_region ?_
    refine wl_boxg [_, _] rfl (by rfl) ?_
    rintro g2 w2 f2 b2_1 i2 i2_1
    have s2 := b2_1.size
    replace hw := hw.trans (b2_1.mono hw.size)
    refine wl_boxg [_, _] rfl (by rfl) ?_
    rintro g3 w3 f3 b3 i3 i3_1
    have s3 := b3.size
    replace hw := hw.trans (b3.mono hw.size)
    replace f2 := f2.u b3
    refine wl_p (fun _ => o_assign rfl) ?_
    refine wl_nil ?_
    refine rk_seq ?_
    refine rk_region ?_
    refine wl_p (fun _ => o_faddr (s := 59) (i := 0) (off := 0) Try.underlying59 rfl Try.sizeOf23 rfl rfl rfl) ?_
    refine wl_r (o_loadbg Try.isAgg23 rfl f2 (by rfl)) ?_
    refine wl_p (fun _ => o_faddr (s := 59) (i := 0) (off := 0) Try.underlying59 rfl Try.sizeOf23 rfl rfl rfl) ?_
    refine wl_r (o_loadbg Try.isAgg23 rfl f3 (by rfl)) ?_
    refine wl_call rfl (C_bEqual _ (h1.u hw) (h3.u hw) rfl rfl) ?_
    rintro v9 w9 ⟨rfl, b9⟩
    have s9 := b9.size
    replace hw := hw.trans (b9.mono hw.size)
    replace f2 := f2.u b9
    replace f3 := f3.u b9
    refine wl_p (fun _ => o_move rfl) ?_
    refine wl_know 10 true rfl (decide_eq_true (by omega)) ?_
    refine wl_p (fun _ => o_faddr (s := 59) (i := 1) (off := 1) Try.underlying59 rfl Try.sizeOf23 rfl rfl rfl) ?_
    refine wl_r (o_loadbg Try.isAgg23 rfl f2 (by rfl)) ?_
    refine wl_p (fun _ => o_faddr (s := 59) (i := 1) (off := 1) Try.underlying59 rfl Try.sizeOf23 rfl rfl rfl) ?_
    refine wl_r (o_loadbg Try.isAgg23 rfl f3 (by rfl)) ?_
    refine wl_call rfl (C_bEqual _ (h2.u hw) (h4.u hw) rfl rfl) ?_
    rintro v15 w15 ⟨rfl, b15⟩
    have s15 := b15.size
    replace hw := hw.trans (b15.mono hw.size)
    replace f3 := f3.u b15
    replace f2 := f2.u b15
    refine wl_p (fun _ => o_pick_t rfl rfl) ?_
    refine wl_p (fun _ => o_assign rfl) ?_
    refine wl_nil ?_
    refine ret1 rfl rfl ?_
    exact ⟨by simp [ha], hw⟩
  · refine rk_seq ?_
    refine rk_region ?_
    refine wl_boxg [_, _] rfl (by rfl) ?_
    rintro g2 w2 f2 b2_1 i2 i2_1
    have s2 := b2_1.size
    replace hw := hw.trans (b2_1.mono hw.size)
    refine wl_boxg [_, _] rfl (by rfl) ?_
    rintro g3 w3 f3 b3 i3 i3_1
    have s3 := b3.size
    replace hw := hw.trans (b3.mono hw.size)
    replace f2 := f2.u b3
    refine wl_p (fun _ => o_assign rfl) ?_
    refine wl_nil ?_
    refine rk_seq ?_
    refine rk_region ?_
    refine wl_p (fun _ => o_faddr (s := 59) (i := 0) (off := 0) Try.underlying59 rfl Try.sizeOf23 rfl rfl rfl) ?_
    refine wl_r (o_loadbg Try.isAgg23 rfl f2 (by rfl)) ?_
    refine wl_p (fun _ => o_faddr (s := 59) (i := 0) (off := 0) Try.underlying59 rfl Try.sizeOf23 rfl rfl rfl) ?_
    refine wl_r (o_loadbg Try.isAgg23 rfl f3 (by rfl)) ?_
    refine wl_call rfl (C_bEqual _ (h1.u hw) (h3.u hw) rfl rfl) ?_
    rintro v9 w9 ⟨rfl, b9⟩
    have s9 := b9.size
    replace hw := hw.trans (b9.mono hw.size)
    replace f2 := f2.u b9
    replace f3 := f3.u b9
    refine wl_p (fun _ => o_move rfl) ?_
    refine wl_know 10 false rfl (decide_eq_false (by omega)) ?_
    refine wl_off ?_
    refine wl_off ?_
    refine wl_off ?_
    refine wl_off ?_
    refine wl_off ?_
    refine wl_p (fun _ => o_pick_f rfl rfl) ?_
    refine wl_p (fun _ => o_assign rfl) ?_
    refine wl_nil ?_
    refine ret1 rfl rfl ?_
    exact ⟨by simp [ha], hw⟩
theorem C_EqualFuncI {A B : Option Addr} {L M : List (By × By)} {n m c d : Nat} (w : World) (hA : RI w A L) (hB : RI w B M) (hn : n = L.length) (hm : m = M.length) (hl : L.length ≤ 4000000) (hl2 : M.length ≤ 4000000) :
    CallsR Try.prog 45 [.slice A n c, .slice B m d, .func (.func 46) #[] #[]] w fun v w' => v = .bool (decide (L = M)) ∧ Below w.heap.size w w' := by
  subst hn; subst hm
  refine callsR Try.func45 rfl rfl (by kernel_rfl) rfl ?_
  have hw := Below.refl w.heap.size w
  refine rk_seq ?_
  refine rk_region ?_
  refine wl_p (fun _ => o_assign rfl) ?_
  refine wl_nil ?_
  refine rk_seq ?_
  refine rk_seq ?_
  refine rk_region ?_
  refine wl_p (fun _ => o_move rfl) ?_
  refine wl_p (fun _ => o_len (t := 24) Try.underlying24 rfl) ?_
  refine wl_p (fun _ => o_move rfl) ?_
  refine wl_p (fun _ => o_len (t := 24) Try.underlying24 rfl) ?_
  refine wl_p (fun _ => o_ne rfl rfl) ?_
  refine wl_nil ?_
  refine rk_if rfl (fun h14 => ?_) (fun h14 => ?_)
  · refine rk_seq ?_
    refine rk_region ?_
    refine wl_p (fun _ => o_assign rfl) ?_
    refine wl_nil ?_
    refine ret1 rfl rfl ?_
    exact ⟨by rw [decide_eq_false (fun e : L = M => h14 (by rw [e]))], hw⟩
  refine rk_skip ?_
  refine rk_seq ?_
  refine rk_seq ?_
  refine rk_region ?_
  refine wl_p (fun _ => o_move rfl) ?_
  refine wl_p (fun _ => o_len (t := 24) Try.underlying24 rfl) ?_
  refine wl_p (fun _ => o_move rfl) ?_
  refine wl_nil ?_
  refine rk_block ?_
  refine rk_joinf (fun fb fr w2 => fr = [] ++ fb.drop 1 ∧ L = M ∧ Below w.heap.size w w2) ?_ (fun ks hj => ?_)
  rotate_left
  · refine rk_loopf (fun fb m fr w2 => ∃ (i : Nat) (v : Int), fr = [(17, .int .i64 v)] ++ fb ∧ v = i ∧ i ≤ L.length ∧ m = L.length - i ∧ L.take i = M.take i ∧ Below w.heap.size w w2) (n := L.length) (Fr.le_of (by kernel_rfl) (by kernel_rfl) (by repeat' constructor)) ⟨0, _, rfl, rfl, by omega, rfl, rfl, hw⟩ ?_
    clear hw
    rintro m fr w2 ⟨i, v, rfl, rfl, hi, rfl, ht, hw⟩
    have shw := hw.size
    first | refine rk_frame (by simp only [List.cons_append, List.nil_append, List.drop_succ_cons, List.drop_zero]; rfl) ?_ | refine wl_frame (by simp only [List.cons_append, List.nil_append, List.drop_succ_cons, List.drop_zero]; rfl) ?_
    refine rk_seq ?_
    refine rk_region ?_
    refine wl_p (fun _ => o_lt rfl rfl) ?_
    refine wl_nil ?_
    refine rk_seq ?_
    refine rk_if rfl (fun h18 => ?_) (fun h18 => ?_)
    · have hiL : i < L.length := by omega
      have hiM : i < M.length := by omega
      refine rk_skip ?_
      refine rk_seq ?_
      refine rk_block ?_
      refine rk_seq ?_
      refine rk_region ?_
      refine wl_p (fun _ => o_move rfl) ?_
      refine wl_p (fun _ => (o_iaddrA (i) Try.underlying24 Try.sizeOf59 rfl rfl rfl (hA.some_ (by omega)) (by omega))) ?_
      refine wl_ldItem rfl hA hw (by omega) ?_
      rintro A121 c121 A221 c221 f21 f21_1 i21 i21_1
      refine wl_allocg [_, _] Try.zeroValue59 (by rfl) ?_
      rintro g8 w8 f8 b8 i8 i8_1
      have s8 := b8.size
      replace hw := hw.trans (b8.mono hw.size)
      refine wl_p (fun _ => o_assign rfl) ?_
      refine wl_storega Try.sizeOf59 rfl rfl (by rfl) (oneCell_of (by rfl)) f8 (by rfl) ?_
      rintro w_1 f g e
      have s := g.size
      replace hw := hw.trans (below_of_grownBy g.g hw.size (by omega))
      clear f8
      refine wl_nil ?_
      refine rk_seq ?_
      refine rk_region ?_
      refine wl_p (fun _ => o_move rfl) ?_
      refine wl_p (fun _ => o_move rfl) ?_
      refine wl_p (fun _ => (o_iaddrA (i) Try.underlying24 Try.sizeOf59 rfl rfl rfl (hB.some_ (by omega)) (by omega))) ?_
      refine wl_ldItem rfl hB hw (by omega) ?_
      rintro A125 c125 A225 c225 f25 f25_1 i25 i25_1
      refine wl_allocg [_, _] Try.zeroValue59 (by rfl) ?_
      rintro g9 w9 f9 b9 i9 i9_1
      have s9 := b9.size
      replace hw := hw.trans (b9.mono hw.size)
      replace f := f.u b9
      refine wl_storega Try.sizeOf59 rfl rfl (by rfl) (oneCell_of (by rfl)) f9 (by rfl) ?_
      rintro w_2 f_1 g_1 e_1
      have s_1 := g_1.size
      replace hw := hw.trans (below_of_grownBy g_1.g hw.size (by omega))
      replace f := f.k g_1.g (ap_some (by omega))
      clear f9
      refine wl_nil ?_
      refine rk_seq ?_
      refine rk_region ?_
      refine wl_p (fun _ => o_move rfl) ?_
      refine wl_r (o_loadag Try.isAgg59 Try.sizeOf59 rfl f (by rfl)) ?_
      refine wl_r (o_loadag Try.isAgg59 Try.sizeOf59 rfl f_1 (by rfl)) ?_
      refine wl_callf (xs := [_, _]) (cs := []) rfl rfl (C_sameItem _ (f21.below hw) (f21_1.below hw) (f25.below hw) (f25_1.below hw) rfl rfl rfl rfl) ?_
      rintro _ w29 ⟨rfl, b29⟩
      have sb29 := b29.size
      replace hw := hw.trans (b29.mono hw.size)
      replace f := f.u b29
      replace f_1 := f_1.u b29
      by_cases he : (L[i].1, L[i].2) = (M[i].1, M[i].2)
      · rw [decide_eq_true he]
        refine wl_p (fun _ => o_not rfl) ?_
        refine wl_nil ?_
        refine rk_false rfl ?_
        refine rk_skip ?_
        refine rk_blk ?_
        refine rk_region ?_
        refine wl_p (fun _ => o_add rfl rfl (by omega) (by omega)) ?_
        refine wl_p (fun _ => o_move rfl) ?_
        refine wl_nil ?_
        exact rk_againf (Fr.le_of (by kernel_rfl) (by kernel_rfl) (by repeat' constructor)) ⟨i + 1, (i : Int) + 1, rfl, by omega, by omega, rfl, by rw [List.take_succ_eq_append_getElem hiL, List.take_succ_eq_append_getElem hiM, ht]; exact congrArg (fun x => M.take i ++ [x]) he, hw⟩ (by omega)
      · rw [decide_eq_false he]
        refine wl_p (fun _ => o_not rfl) ?_
        refine wl_nil ?_
        refine rk_true rfl ?_
        refine rk_seq ?_
        refine rk_region ?_
        refine wl_p (fun _ => o_assign rfl) ?_
        refine wl_nil ?_
        refine ret1 rfl rfl ?_
        exact ⟨by rw [decide_eq_false (fun e : L = M => he (by subst e; rfl))], hw⟩
    · refine rk_exit rfl ?_
      have e : L = M := by
        rw [List.take_of_length_le (by omega), List.take_of_length_le (by omega)] at ht
        exact ht
      exact rk_tof hj (Fr.le_of (by kernel_rfl) (by kernel_rfl) (by repeat' constructor)) ⟨rfl, e, hw⟩
  clear hw
  rintro fr w2 ⟨rfl, e, hw⟩
  first | refine rk_frame (by simp only [List.cons_append, List.nil_append, List.drop_succ_cons, List.drop_zero]; rfl) ?_ | refine wl_frame (by simp only [List.cons_append, List.nil_append, List.drop_succ_cons, List.drop_zero]; rfl) ?_
  refine rk_seq ?_
  refine rk_region ?_
  refine wl_p (fun _ => o_assign rfl) ?_
  refine wl_nil ?_
  refine ret1 rfl rfl ?_
  exact ⟨by rw [decide_eq_true e], hw⟩
theorem C_opsSame {A K B A2 K2 B2 : Option Addr} {L M : List (By × By)} {X Y X2 Y2 : List Ky} {n q m c e d n2 q2 m2 c2 e2 d2 : Nat} (w : World) (hA : RI w A L) (hK : RKs w K X) (hB : RKs w B Y) (hA2 : RI w A2 M) (hK2 : RKs w K2 X2) (hB2 : RKs w B2 Y2) (hn : n = L.length) (hq : q = X.length) (hm : m = Y.length) (hn2 : n2 = M.length) (hq2 : q2 = X2.length) (hm2 : m2 = Y2.length) (hl : L.length ≤ 4000000) (hl2 : M.length ≤ 4000000) (hl3 : X.length ≤ 4000000) (hl4 : Y.length ≤ 4000000) (hl5 : X2.length ≤ 4000000) (hl6 : Y2.length ≤ 4000000) :
    CallsR Try.prog 25 [.agg #[.slice A n c, .slice K q e, .slice B m d], .agg #[.slice A2 n2 c2, .slice K2 q2 e2, .slice B2 m2 d2]] w fun v w' => v = .bool (decide ((L, X, Y) = (M, X2, Y2))) ∧ Below w.heap.size w w' := by
  subst hn; subst hm; subst hn2; subst hm2; subst hq; subst hq2
  refine callsR Try.func25 rfl rfl (by kernel_rfl) rfl ?_
  have hw := Below.refl w.heap.size w
  by_cases h1 : L = M
  · by_cases h2 : X = X2
    · refine rk_seq ?_
      refine rk_region ?_
      refine wl_boxg [_, _, _] rfl (by rfl) ?_
      rintro g2 w2 f2 b2 i2 i2_1
      have s2 := b2.size
      replace hw := hw.trans (b2.mono hw.size)
      refine wl_boxg [_, _, _] rfl (by rfl) ?_
      rintro g3 w3 f3 b3 i3 i3_1
      have s3 := b3.size
      replace hw := hw.trans (b3.mono hw.size)
      replace f2 := f2.u b3
      refine wl_p (fun _ => o_assign rfl) ?_
      refine wl_nil ?_
      refine rk_seq ?_
      refine rk_region ?_
      refine wl_p (fun _ => o_faddr (s := 27) (i := 0) (off := 0) Try.underlying27 rfl Try.sizeOf24 rfl rfl rfl) ?_
      refine wl_r (o_loadbg Try.isAgg24 rfl f2 (by rfl)) ?_
      refine wl_p (fun _ => o_faddr (s := 27) (i := 0) (off := 0) Try.underlying27 rfl Try.sizeOf24 rfl rfl rfl) ?_
      refine wl_r (o_loadbg Try.isAgg24 rfl f3 (by rfl)) ?_
      refine wl_call rfl (C_EqualFuncI _ (hA.u hw) (hA2.u hw) rfl rfl (by omega) (by omega)) ?_
      rintro v9 w9 ⟨rfl, b9⟩
      have s9 := b9.size
      replace hw := hw.trans (b9.mono hw.size)
      replace f2 := f2.u b9
      replace f3 := f3.u b9
      refine wl_p (fun _ => o_move rfl) ?_
      refine wl_know 10 true rfl (decide_eq_true (by omega)) ?_
      refine wl_p (fun _ => o_faddr (s := 27) (i := 1) (off := 1) Try.underlying27 rfl Try.sizeOf25 rfl rfl rfl) ?_
      refine wl_r (o_loadbg Try.isAgg25 rfl f2 (by rfl)) ?_
      refine wl_p (fun _ => o_faddr (s := 27) (i := 1) (off := 1) Try.underlying27 rfl Try.sizeOf25 rfl rfl rfl) ?_
      refine wl_r (o_loadbg Try.isAgg25 rfl f3 (by rfl)) ?_
      refine wl_call rfl (C_equalK _ (hK.u hw) (hK2.u hw) rfl rfl (by omega) (by omega)) ?_
      rintro v15 w15 ⟨rfl, b15⟩
      have s15 := b15.size
      replace hw := hw.trans (b15.mono hw.size)
      replace f3 := f3.u b15
      replace f2 := f2.u b15
      refine wl_p (fun _ => o_pick_t rfl rfl) ?_
      refine wl_p (fun _ => o_move rfl) ?_
      refine wl_know 17 true rfl (decide_eq_true (by omega)) ?_
      refine wl_p (fun _ => o_faddr (s := 27) (i := 2) (off := 2) Try.underlying27 rfl Try.sizeOf25 rfl rfl rfl) ?_
      refine wl_r (o_loadbg Try.isAgg25 rfl f2 (by rfl)) ?_
      refine wl_p (fun _ => o_faddr (s := 27) (i := 2) (off := 2) Try.underlying27 rfl Try.sizeOf25 rfl rfl rfl) ?_
      refine wl_r (o_loadbg Try.isAgg25 rfl f3 (by rfl)) ?_
      refine wl_call rfl (C_equalK _ (hB.u hw) (hB2.u hw) rfl rfl (by omega) (by omega)) ?_
      rintro v22 w22 ⟨rfl, b22⟩
      have s22 := b22.size
      replace hw := hw.trans (b22.mono hw.size)
      replace f2 := f2.u b22
      replace f3 := f3.u b22
      refine wl_p (fun _ => o_pick_t rfl rfl) ?_
      refine wl_p (fun _ => o_assign rfl) ?_
      refine wl_nil ?_
      refine ret1 rfl rfl ?_
      exact ⟨by simp [h1, h2], hw⟩
    · refine rk_seq ?_
      refine rk_region ?_
      refine wl_boxg [_, _, _] rfl (by rfl) ?_
      rintro g2 w2 f2 b2 i2 i2_1
      have s2 := b2.size
      replace hw := hw.trans (b2.mono hw.size)
      refine wl_boxg [_, _, _] rfl (by rfl) ?_
      rintro g3 w3 f3 b3 i3 i3_1
      have s3 := b3.size
      replace hw := hw.trans (b3.mono hw.size)
      replace f2 := f2.u b3
      refine wl_p (fun _ => o_assign rfl) ?_
      refine wl_nil ?_
      refine rk_seq ?_
      refine rk_region ?_
      refine wl_p (fun _ => o_faddr (s := 27) (i := 0) (off := 0) Try.underlying27 rfl Try.sizeOf24 rfl rfl rfl) ?_
      refine wl_r (o_loadbg Try.isAgg24 rfl f2 (by rfl)) ?_
      refine wl_p (fun _ => o_faddr (s := 27) (i := 0) (off := 0) Try.underlying27 rfl Try.sizeOf24 rfl rfl rfl) ?_
      refine wl_r (o_loadbg Try.isAgg24 rfl f3 (by rfl)) ?_
      refine wl_call rfl (C_EqualFuncI _ (hA.u hw) (hA2.u hw) rfl rfl (by omega) (by omega)) ?_
      rintro v9 w9 ⟨rfl, b9⟩
      have s9 := b9.size
      replace hw := hw.trans (b9.mono hw.size)
      replace f2 := f2.u b9
      replace f3 := f3.u b9
      refine wl_p (fun _ => o_move rfl) ?_
      refine wl_know 10 true rfl (decide_eq_true (by omega)) ?_
      refine wl_p (fun _ => o_faddr (s := 27) (i := 1) (off := 1) Try.underlying27 rfl Try.sizeOf25 rfl rfl rfl) ?_
      refine wl_r (o_loadbg Try.isAgg25 rfl f2 (by rfl)) ?_
      refine wl_p (fun _ => o_faddr (s := 27) (i := 1) (off := 1) Try.underlying27 rfl Try.sizeOf25 rfl rfl rfl) ?_
      refine wl_r (o_loadbg Try.isAgg25 rfl f3 (by rfl)) ?_
      refine wl_call rfl (C_equalK _ (hK.u hw) (hK2.u hw) rfl rfl (by omega) (by omega)) ?_
      rintro v15 w15 ⟨rfl, b15⟩
      have s15 := b15.size
      replace hw := hw.trans (b15.mono hw.size)
      replace f3 := f3.u b15
      replace f2 := f2.u b15
      refine wl_p (fun _ => o_pick_t rfl rfl) ?_
      refine wl_p (fun _ => o_move rfl) ?_
      refine wl_know 17 false rfl (decide_eq_false (by omega)) ?_
      refine wl_off ?_
      refine wl_off ?_
      refine wl_off ?_
      refine wl_off ?_
      refine wl_off ?_
      refine wl_p (fun _ => o_pick_f rfl rfl) ?_
      refine wl_p (fun _ => o_assign rfl) ?_
      refine wl_nil ?_
      refine ret1 rfl rfl ?_
      exact ⟨by simp [h1, h2], hw⟩
  · refine rk_seq ?_
    refine rk_region ?_
    refine wl_boxg [_, _, _] rfl (by rfl) ?_
    rintro g2 w2 f2 b2 i2 i2_1
    have s2 := b2.size
    replace hw := hw.trans (b2.mono hw.size)
    refine wl_boxg [_, _, _] rfl (by rfl) ?_
    rintro g3 w3 f3 b3 i3 i3_1
    have s3 := b3.size
    replace hw := hw.trans (b3.mono hw.size)
    replace f2 := f2.u b3
    refine wl_p (fun _ => o_assign rfl) ?_
    refine wl_nil ?_
    refine rk_seq ?_
    refine rk_region ?_
    refine wl_p (fun _ => o_faddr (s := 27) (i := 0) (off := 0) Try.underlying27 rfl Try.sizeOf24 rfl rfl rfl) ?_
    refine wl_r (o_loadbg Try.isAgg24 rfl f2 (by rfl)) ?_
    refine wl_p (fun _ => o_faddr (s := 27) (i := 0) (off := 0) Try.underlying27 rfl Try.sizeOf24 rfl rfl rfl) ?_
    refine wl_r (o_loadbg Try.isAgg24 rfl f3 (by rfl)) ?_
    refine wl_call rfl (C_EqualFuncI _ (hA.u hw) (hA2.u hw) rfl rfl (by omega) (by omega)) ?_
    rintro v9 w9 ⟨rfl, b9⟩
    have s9 := b9.size
    replace hw := hw.trans (b9.mono hw.size)
    replace f2 := f2.u b9
    replace f3 := f3.u b9
    refine wl_p (fun _ => o_move rfl) ?_
    refine wl_know 10 false rfl (decide_eq_false (by omega)) ?_
    refine wl_off ?_
    refine wl_off ?_
    refine wl_off ?_
    refine wl_off ?_
    refine wl_off ?_
    refine wl_p (fun _ => o_pick_f rfl rfl) ?_
    refine wl_p (fun _ => o_move rfl) ?_
    refine wl_off ?_
    refine wl_off ?_
    refine wl_off ?_
    refine wl_off ?_
    refine wl_off ?_
    refine wl_p (fun _ => o_pick_f rfl rfl) ?_
    refine wl_p (fun _ => o_assign rfl) ?_
    refine wl_nil ?_
    refine ret1 rfl rfl ?_
    exact ⟨by simp [h1], hw⟩
theorem C_sameOp {K V K2 V2 : Option Addr} {p q p2 q2 : By} {n c m d n2 c2 m2 d2 : Nat} {k k2 : Int} {u u2 : Ky} (w : World) (hK : Rd w K p) (hV : Rd w V q) (hK2 : Rd w K2 p2) (hV2 : Rd w V2 q2) (hn : n = p.length) (hm : m = q.length) (hn2 : n2 = p2.length) (hm2 : m2 = q2.length) :
    CallsR Try.prog 26 [.agg (opC k K n c V m d u).toArray, .agg (opC k2 K2 n2 c2 V2 m2 d2 u2).toArray] w fun v w' => v = .bool (decide ((k, p, q, u) = (k2, p2, q2, u2))) ∧ Below w.heap.size w w' := by
  subst hn; subst hm; subst hn2; subst hm2
  refine callsR Try.func26 rfl rfl (by kernel_rfl) rfl ?_
  have hw := Below.refl w.heap.size w
  by_cases h1 : k = k2
  · by_cases h2 : p = p2
    · by_cases h3 : q = q2
      · refine rk_seq ?_
        refine rk_region ?_
        refine wl_boxg _ rfl (by rfl) ?_
        rintro g2 w2 f2 b2 i2 i2_1
        have s2 := b2.size
        replace hw := hw.trans (b2.mono hw.size)
        refine wl_boxg _ rfl (by rfl) ?_
        rintro g3 w3 f3 b3 i3 i3_1
        have s3 := b3.size
        replace hw := hw.trans (b3.mono hw.size)
        replace f2 := f2.u b3
        refine wl_p (fun _ => o_assign rfl) ?_
        refine wl_nil ?_
        refine rk_seq ?_
        refine rk_region ?_
        refine wl_p (fun _ => o_faddr (s := 31) (i := 0) (off := 0) Try.underlying31 rfl Try.sizeOf3 rfl rfl rfl) ?_
        refine wl_r (o_loadbg Try.isAgg3 rfl f2 (by rfl)) ?_
        refine wl_p (fun _ => o_faddr (s := 31) (i := 0) (off := 0) Try.underlying31 rfl Try.sizeOf3 rfl rfl rfl) ?_
        refine wl_r (o_loadbg Try.isAgg3 rfl f3 (by rfl)) ?_
        refine wl_p (fun _ => o_eq rfl rfl) ?_
        refine wl_p (fun _ => o_move rfl) ?_
        refine wl_know 10 true rfl (decide_eq_true (by omega)) ?_
        refine wl_p (fun _ => o_faddr (s := 31) (i := 1) (off := 1) Try.underlying31 rfl Try.sizeOf23 rfl rfl rfl) ?_
        refine wl_r (o_loadbg Try.isAgg23 rfl f2 (by rfl)) ?_
        refine wl_p (fun _ => o_faddr (s := 31) (i := 1) (off := 1) Try.underlying31 rfl Try.sizeOf23 rfl rfl rfl) ?_
        refine wl_r (o_loadbg Try.isAgg23 rfl f3 (by rfl)) ?_
        refine wl_call rfl (C_bEqual _ (hK.u hw) (hK2.u hw) rfl rfl) ?_
        rintro v15 w15 ⟨rfl, b15⟩
        have s15 := b15.size
        replace hw := hw.trans (b15.mono hw.size)
        replace f2 := f2.u b15
        replace f3 := f3.u b15
        refine wl_p (fun _ => o_pick_t rfl rfl) ?_
        refine wl_p (fun _ => o_move rfl) ?_
        refine wl_know 17 true rfl (decide_eq_true (by omega)) ?_
        refine wl_p (fun _ => o_faddr (s := 31) (i := 2) (off := 2) Try.underlying31 rfl Try.sizeOf23 rfl rfl rfl) ?_
        refine wl_r (o_loadbg Try.isAgg23 rfl f2 (by rfl)) ?_
        refine wl_p (fun _ => o_faddr (s := 31) (i := 2) (off := 2) Try.underlying31 rfl Try.sizeOf23 rfl rfl rfl) ?_
        refine wl_r (o_loadbg Try.isAgg23 rfl f3 (by rfl)) ?_
        refine wl_call rfl (C_bEqual _ (hV.u hw) (hV2.u hw) rfl rfl) ?_
        rintro v22 w22 ⟨rfl, b22⟩
        have s22 := b22.size
        replace hw := hw.trans (b22.mono hw.size)
        replace f3 := f3.u b22
        replace f2 := f2.u b22
        refine wl_p (fun _ => o_pick_t rfl rfl) ?_
        refine wl_p (fun _ => o_move rfl) ?_
        refine wl_know 24 true rfl (decide_eq_true (by omega)) ?_
        refine wl_p (fun _ => o_faddr (s := 31) (i := 3) (off := 3) Try.underlying31 rfl Try.sizeOf29 rfl rfl rfl) ?_
        refine wl_r (o_ldWho rfl f2) ?_
        refine wl_p (fun _ => o_faddr (s := 31) (i := 3) (off := 3) Try.underlying31 rfl Try.sizeOf29 rfl rfl rfl) ?_
        refine wl_r (o_ldWho rfl f3) ?_
        refine wl_p (fun _ => (o_eqKy rfl rfl)) ?_
        refine wl_p (fun _ => o_pick_t rfl rfl) ?_
        refine wl_p (fun _ => o_assign rfl) ?_
        refine wl_nil ?_
        refine ret1 rfl rfl ?_
        exact ⟨by simp [h1, h2, h3], hw⟩
      · refine rk_seq ?_
        refine rk_region ?_
        refine wl_boxg _ rfl (by rfl) ?_
        rintro g2 w2 f2 b2 i2 i2_1
        have s2 := b2.size
        replace hw := hw.trans (b2.mono hw.size)
        refine wl_boxg _ rfl (by rfl) ?_
        rintro g3 w3 f3 b3 i3 i3_1
        have s3 := b3.size
        replace hw := hw.trans (b3.mono hw.size)
        replace f2 := f2.u b3
        refine wl_p (fun _ => o_assign rfl) ?_
        refine wl_nil ?_
        refine rk_seq ?_
        refine rk_region ?_
        refine wl_p (fun _ => o_faddr (s := 31) (i := 0) (off := 0) Try.underlying31 rfl Try.sizeOf3 rfl rfl rfl) ?_
        refine wl_r (o_loadbg Try.isAgg3 rfl f2 (by rfl)) ?_
        refine wl_p (fun _ => o_faddr (s := 31) (i := 0) (off := 0) Try.underlying31 rfl Try.sizeOf3 rfl rfl rfl) ?_
        refine wl_r (o_loadbg Try.isAgg3 rfl f3 (by rfl)) ?_
        refine wl_p (fun _ => o_eq rfl rfl) ?_
        refine wl_p (fun _ => o_move rfl) ?_
        refine wl_know 10 true rfl (decide_eq_true (by omega)) ?_
        refine wl_p (fun _ => o_faddr (s := 31) (i := 1) (off := 1) Try.underlying31 rfl Try.sizeOf23 rfl rfl rfl) ?_
        refine wl_r (o_loadbg Try.isAgg23 rfl f2 (by rfl)) ?_
        refine wl_p (fun _ => o_faddr (s := 31) (i := 1) (off := 1) Try.underlying31 rfl Try.sizeOf23 rfl rfl rfl) ?_
        refine wl_r (o_loadbg Try.isAgg23 rfl f3 (by rfl)) ?_
        refine wl_call rfl (C_bEqual _ (hK.u hw) (hK2.u hw) rfl rfl) ?_
        rintro v15 w15 ⟨rfl, b15⟩
        have s15 := b15.size
        replace hw := hw.trans (b15.mono hw.size)
        replace f2 := f2.u b15
        replace f3 := f3.u b15
        refine wl_p (fun _ => o_pick_t rfl rfl) ?_
        refine wl_p (fun _ => o_move rfl) ?_
        refine wl_know 17 true rfl (decide_eq_true (by omega)) ?_
        refine wl_p (fun _ => o_faddr (s := 31) (i := 2) (off := 2) Try.underlying31 rfl Try.sizeOf23 rfl rfl rfl) ?_
        refine wl_r (o_loadbg Try.isAgg23 rfl f2 (by rfl)) ?_
        refine wl_p (fun _ => o_faddr (s := 31) (i := 2) (off := 2) Try.underlying31 rfl Try.sizeOf23 rfl rfl rfl) ?_
        refine wl_r (o_loadbg Try.isAgg23 rfl f3 (by rfl)) ?_
        refine wl_call rfl (C_bEqual _ (hV.u hw) (hV2.u hw) rfl rfl) ?_
        rintro v22 w22 ⟨rfl, b22⟩
        have s22 := b22.size
        replace hw := hw.trans (b22.mono hw.size)
        replace f3 := f3.u b22
        replace f2 := f2.u b22
        refine wl_p (fun _ => o_pick_t rfl rfl) ?_
        refine wl_p (fun _ => o_move rfl) ?_
        refine wl_know 24 false rfl (decide_eq_false (by omega)) ?_
        refine wl_off ?_
        refine wl_off ?_
        refine wl_off ?_
        refine wl_off ?_
        refine wl_off ?_
        refine wl_p (fun _ => o_pick_f rfl rfl) ?_
        refine wl_p (fun _ => o_assign rfl) ?_
        refine wl_nil ?_
        refine ret1 rfl rfl ?_
        exact ⟨by simp [h1, h2, h3], hw⟩
    · refine rk_seq ?_
      refine rk_region ?_
      refine wl_boxg _ rfl (by rfl) ?_
      rintro g2 w2 f2 b2 i2 i2_1
      have s2 := b2.size
      replace hw := hw.trans (b2.mono hw.size)
      refine wl_boxg _ rfl (by rfl) ?_
      rintro g3 w3 f3 b3 i3 i3_1
      have s3 := b3.size
      replace hw := hw.trans (b3.mono hw.size)
      replace f2 := f2.u b3
      refine wl_p (fun _ => o_assign rfl) ?_
      refine wl_nil ?_
      refine rk_seq ?_
      refine rk_region ?_
      refine wl_p (fun _ => o_faddr (s := 31) (i := 0) (off := 0) Try.underlying31 rfl Try.sizeOf3 rfl rfl rfl) ?_
      refine wl_r (o_loadbg Try.isAgg3 rfl f2 (by rfl)) ?_
      refine wl_p (fun _ => o_faddr (s := 31) (i := 0) (off := 0) Try.underlying31 rfl Try.sizeOf3 rfl rfl rfl) ?_
      refine wl_r (o_loadbg Try.isAgg3 rfl f3 (by rfl)) ?_
      refine wl_p (fun _ => o_eq rfl rfl) ?_
      refine wl_p (fun _ => o_move rfl) ?_
      refine wl_know 10 true rfl (decide_eq_true (by omega)) ?_
      refine wl_p (fun _ => o_faddr (s := 31) (i := 1) (off := 1) Try.underlying31 rfl Try.sizeOf23 rfl rfl rfl) ?_
      refine wl_r (o_loadbg Try.isAgg23 rfl f2 (by rfl)) ?_
      refine wl_p (fun _ => o_faddr (s := 31) (i := 1) (off := 1) Try.underlying31 rfl Try.sizeOf23 rfl rfl rfl) ?_
      refine wl_r (o_loadbg Try.isAgg23 rfl f3 (by rfl)) ?_
      refine wl_call rfl (C_bEqual _ (hK.u hw) (hK2.u hw) rfl rfl) ?_
      rintro v15 w15 ⟨rfl, b15⟩
      have s15 := b15.size
      replace hw := hw.trans (b15.mono hw.size)
      replace f2 := f2.u b15
      replace f3 := f3.u b15
      refine wl_p (fun _ => o_pick_t rfl rfl) ?_
      refine wl_p (fun _ => o_move rfl) ?_
      refine wl_know 17 false rfl (decide_eq_false (by omega)) ?_
      refine wl_off ?_
      refine wl_off ?_
      refine wl_off ?_
      refine wl_off ?_
      refine wl_off ?_
      refine wl_p (fun _ => o_pick_f rfl rfl) ?_
      refine wl_p (fun _ => o_move rfl) ?_
      refine wl_off ?_
      refine wl_off ?_
      refine wl_off ?_
      refine wl_off ?_
      refine wl_off ?_
      refine wl_p (fun _ => o_pick_f rfl rfl) ?_
      refine wl_p (fun _ => o_assign rfl) ?_
      refine wl_nil ?_
      refine ret1 rfl rfl ?_
      exact ⟨by simp [h1, h2], hw⟩
  · refine rk_seq ?_
    refine rk_region ?_
    refine wl_boxg _ rfl (by rfl) ?_
    rintro g2 w2 f2 b2 i2 i2_1
    have s2 := b2.size
    replace hw := hw.trans (b2.mono hw.size)
    refine wl_boxg _ rfl (by rfl) ?_
    rintro g3 w3 f3 b3 i3 i3_1
    have s3 := b3.size
    replace hw := hw.trans (b3.mono hw.size)
    replace f2 := f2.u b3
    refine wl_p (fun _ => o_assign rfl) ?_
    refine wl_nil ?_
    refine rk_seq ?_
    refine rk_region ?_
    refine wl_p (fun _ => o_faddr (s := 31) (i := 0) (off := 0) Try.underlying31 rfl Try.sizeOf3 rfl rfl rfl) ?_
    refine wl_r (o_loadbg Try.isAgg3 rfl f2 (by rfl)) ?_
    refine wl_p (fun _ => o_faddr (s := 31) (i := 0) (off := 0) Try.underlying31 rfl Try.sizeOf3 rfl rfl rfl) ?_
    refine wl_r (o_loadbg Try.isAgg3 rfl f3 (by rfl)) ?_
    refine wl_p (fun _ => o_eq rfl rfl) ?_
    refine wl_p (fun _ => o_move rfl) ?_
    refine wl_know 10 false rfl (decide_eq_false (by omega)) ?_
    refine wl_off ?_
    refine wl_off ?_
    refine wl_off ?_
    refine wl_off ?_
    refine wl_off ?_
    refine wl_p (fun _ => o_pick_f rfl rfl) ?_
    refine wl_p (fun _ => o_move rfl) ?_
    refine wl_off ?_
    refine wl_off ?_
    refine wl_off ?_
    refine wl_off ?_
    refine wl_off ?_
    refine wl_p (fun _ => o_pick_f rfl rfl) ?_
    refine wl_p (fun _ => o_move rfl) ?_
    refine wl_off ?_
    refine wl_off ?_
    refine wl_off ?_
    refine wl_off ?_
    refine wl_off ?_
    refine wl_p (fun _ => o_pick_f rfl rfl) ?_
    refine wl_p (fun _ => o_assign rfl) ?_
    refine wl_nil ?_
    refine ret1 rfl rfl ?_
    exact ⟨by simp [h1], hw⟩
end Go.Proofs.Ytahkeoegbjopfaa
/-
  The statement OpsNames.
-/
namespace Go.Proofs.Ytahkeoegbjopfaa
open Go.RowKit
structure BytesR (L : List Opn) (b : By) (e : Nat) : Prop where
  h : bytesO L = (b, e)
structure ReadR (b : By) (L : List Opn) (e : Nat) : Prop where
  h : readO b = (L, e)
theorem C_opsBytesN {A : Option Addr} {L : List Opn} {b : By} {e n c : Nat} (w : World) (hr : BytesR L b e) (hL : RO w A L) (hn : n = L.length) (hln : L.length ≤ 4000000) (hl : ∀ o ∈ L, o.2.1.length ≤ 4000000 ∧ o.2.2.1.length ≤ 4000000) :
    CallsR Try.prog 10 [.slice A n c] w fun v w' => ∃ A' c', v = .tuple #[.slice A' b.length c', .int .i64 (e : Int)] ∧ OwnH w' w.heap.size w'.heap.size A' c' b ∧ Below w.heap.size w w' := by
  have h := C_opsBytes (c := c) w hL hn hln hl
  rwa [hr.h] at h
theorem C_opsReadN {A : Option Addr} {b : By} {L : List Opn} {e n c : Nat} (w : World) (hr : ReadR b L e) (hA : Rd w A b) (hn : n = b.length) (hl : b.length ≤ 4000000) :
    CallsR Try.prog 8 [.slice A n c] w fun v w' => ∃ A' c', v = .tuple #[.slice A' L.length c', .int .i64 (e : Int)] ∧ OwnO w' w.heap.size w'.heap.size A' c' L ∧ Below w.heap.size w w' :=
  C_opsRead w hA hr.h hn hl
set_option maxHeartbeats 2000000 in
theorem C_OpsNames (w : World) : CallsR Try.prog 4 [] w fun v w' => v = .bool true ∧ Below w.heap.size w w' := by
  have e1 : StepR [] [kA] [kA] kA 3 [] [] kB [] [kA, kB] [kA] true := ⟨by decide +kernel⟩
  have e2 : StepR [] [kA, kB] [kA] kB 1 [107] [119] z32 [([107], [119])] [kA, kB] [kA] true := ⟨by decide +kernel⟩
  have e3 : StepR [([107], [119])] [kA, kB] [kA] kB 5 [] [] kB [([107], [119])] [kA, kB] [kA] false := ⟨by decide +kernel⟩
  obtain ⟨bs, e4, hbl, hb0, hb1⟩ : ∃ bs, BytesR [(2, [107], [], z32)] bs 0 ∧ bs.length = 4 ∧ (∀ h : 0 < bs.length, bs[0] = 1) ∧ ∀ h : 1 < bs.length, bs[1] = 2 := ⟨[1, 2, 1, 107], ⟨by decide +kernel⟩, rfl, fun _ => rfl, fun _ => rfl⟩
  have e5 : ReadR [] [] 4 := ⟨by kernel_rfl⟩
  have e6 : ReadR [0] [] 0 := ⟨by kernel_rfl⟩
  have e7 : OkSt [] [kA] [kA] := by decide +kernel
  have e8 : ¬OkSt [] [] [] := by decide +kernel
  have e9 : cmpL kA.1 kB.1 = -1 := by decide +kernel
  refine callsR Try.func4 rfl rfl (by kernel_rfl) rfl ?_
  have hw := Below.refl w.heap.size w
  refine rk_seq ?_
  refine rk_region ?_
  refine wl_p (fun _ => o_assign rfl) ?_
  refine wl_nil ?_
  refine rk_seq ?_
  refine rk_region ?_
  refine wl_call rfl (C_alone _) ?_
  rintro v14 w14 ⟨B14, ⟨C14, ⟨rfl, ⟨f14, ⟨f14_1, b14⟩⟩⟩⟩⟩
  have s14 := b14.size
  replace hw := hw.trans (b14.mono hw.size)
  refine wl_call rfl (C_a _) ?_
  rintro v15 w15 ⟨rfl, b15⟩
  have s15 := b15.size
  replace hw := hw.trans (b15.mono hw.size)
  replace f14_1 := f14_1.u b15
  replace f14 := f14.u b15
  refine wl_call rfl (C_b _) ?_
  rintro v16 w16 ⟨rfl, b16⟩
  have s16 := b16.size
  replace hw := hw.trans (b16.mono hw.size)
  replace f14 := f14.u b16
  replace f14_1 := f14_1.u b16
  refine wl_p (fun _ => (o_bldOp03 rfl rfl)) ?_
  refine wl_call rfl (C_opsStepN _ e1 (RI.nil_) f14.to_RKs f14_1.to_RKs (Rd.nil_) (Rd.nil_) (by rfl) (by rfl) (by rfl) (by rfl) (by rfl) (by simp) (by simp) (by simp) (by simp [LtI]) (by simp) (by simp)) ?_
  rintro v18 w18 ⟨A18, ⟨c18, ⟨B18, ⟨d18, ⟨C18, ⟨e18, ⟨rfl, ⟨f18, ⟨f18_1, ⟨f18_2, b18⟩⟩⟩⟩⟩⟩⟩⟩⟩⟩
  have qf18 := f18.cap
  have qf18_1 := f18_1.cap
  have qf18_2 := f18_2.cap
  have s18 := b18.size
  replace hw := hw.trans (b18.mono hw.size)
  replace f14_1 := f14_1.u b18
  replace f14 := f14.u b18
  refine wl_p (fun _ => o_move rfl) ?_
  refine wl_p (fun _ => o_ext20 rfl) ?_
  refine wl_p (fun _ => o_ext21 rfl) ?_
  refine wl_allocg [_, _, _] Try.zeroValue27 (by rfl) ?_
  rintro g1 w1 f1 b1 i1 i1_1
  have s1 := b1.size
  replace hw := hw.trans (b1.mono hw.size)
  replace f14 := f14.u b1
  replace f14_1 := f14_1.u b1
  replace f18_2 := f18_2.u b1
  replace f18_1 := f18_1.u b1
  replace f18 := f18.u b1
  refine wl_storega Try.sizeOf27 rfl rfl (by rfl) (oneCell_of (by rfl)) f1 (by rfl) ?_
  rintro w_1 f g e
  have s := g.size
  replace hw := hw.trans (below_of_grownBy g.g hw.size (by omega))
  replace f18 := f18.y g (by decide)
  replace f18_1 := f18_1.y g (by decide)
  replace f18_2 := f18_2.y g (by decide)
  replace f14_1 := f14_1.y g (by decide)
  replace f14 := f14.y g (by decide)
  clear f1
  refine wl_p (fun _ => o_assign rfl) ?_
  refine wl_nil ?_
  refine rk_seq ?_
  refine rk_drawo (id := 2) (none) [0, 0, 2, 7, 8, 16, 16, 0, 191, 511] [0, 0, 2, 7, 15, 31, 31, 0, 191, 511] 398 134 [0] [(.s, 0), (.f 1 398 134, 9)] (by kernel_rfl) (by kernel_rfl) (by kernel_rfl) (by kernel_rfl) (by kernel_rfl) ?_
  dsimp only [inOrder, nthOp]
  replace hw := hw.drew
  replace f14 := f14.d
  replace f14_1 := f14_1.d
  replace f18_2 := f18_2.d
  replace f18_1 := f18_1.d
  replace f18 := f18.d
  replace f := f.d
  refine wl_s (fun _ hk => (o_loadag Try.isAgg27 Try.sizeOf27 rfl (f.u (below_of_grown_none hk)) (by rfl))) ?_
  have hw1 := Below.refl w_1.drew.heap.size w_1.drew
  have hg1 := f.lt
  refine wl_forkf (m := 1) (L := 398) (C := 134) (n := 9) (k1 := 1) (k2 := 7) (fun fb fr w' => ∃ g3 A' c' B' d' C' e', fr = [(3, .pointer (some ⟨g3, 0, none⟩)), (26, .agg #[.slice A' [(([107] : By), ([119] : By))].length c', .slice B' [kA, kB].length d', .slice C' [kA].length e']), (27, .bool true)] ++ fb ∧ Blk w' g3 27 [.slice none 0 0, .slice none 0 0, .slice none 0 0] ∧ g1 < g3 ∧ RIT w' A' [([107], [119])] ∧ RKT w' B' [kA, kB] ∧ RKT w' C' [kA] ∧ Below w_1.drew.heap.size w_1.drew w') [0, 0, 2, 7, 8, 16, 16, 0, 191, 511] [0, 0, 2, 7, 15, 31, 31, 0, 191, 511] [1] [7, 1, 2, 3, 4, 5, 6, 8, 9] [8, 9] [(.f 3 398 134, 8)] [(.c, 1), (.c, 2), (.l, 3), (.p, 4), (.p, 5), (.p, 6), (.l, 8), (.p, 9)] [(.l, 8), (.p, 9)] (by kernel_rfl) (by kernel_rfl) (by kernel_rfl) (by kernel_rfl) (by kernel_rfl) ?_ (fun hj => ?_) (fun hj => ?_) <;> dsimp only [inOrder, nthOp]
  · clear hw1
    rintro fr w' ⟨g3, A', c', B', d', C', e', rfl, f3, h3, k1, k2, k3, hw1⟩
    first | refine rk_frame (by simp only [List.cons_append, List.nil_append, List.drop_succ_cons, List.drop_zero]; rfl) ?_ | refine wl_frame (by simp only [List.cons_append, List.nil_append, List.drop_succ_cons, List.drop_zero]; rfl) ?_
    have shw1 := hw1.size
    simp only [drew_size] at shw1
    replace hw := hw.trans (hw1.mono hw.size)
    replace f := f.u hw1
    replace f18 := f18.u hw1
    replace f18_1 := f18_1.u hw1
    replace f18_2 := f18_2.u hw1
    replace f14_1 := f14_1.u hw1
    replace f14 := f14.u hw1
    refine wl_storega Try.sizeOf27 rfl rfl (by rfl) (oneCell_of (by rfl)) f3 (by rfl) ?_
    rintro w_2 f_1 g_1 e_1
    have s_1 := g_1.size
    replace hw := hw.trans (below_of_grownBy g_1.g hw.size (by omega))
    replace f14 := f14.y g_1 (by decide)
    replace f14_1 := f14_1.y g_1 (by decide)
    replace f18_2 := f18_2.y g_1 (by decide)
    replace f18_1 := f18_1.y g_1 (by decide)
    replace f18 := f18.y g_1 (by decide)
    replace f := f.k g_1.g (ap_some (by omega))
    replace k3 := k3.y g_1 (by decide)
    replace k2 := k2.y g_1 (by decide)
    replace k1 := k1.y g_1 (by decide)
    clear f3
    refine wl_p (fun _ => o_assign rfl) ?_
    refine wl_nild ?_
    refine rk_seq ?_
    refine rk_drawo (id := 3) (none) [0, 0, 2, 4, 15, 16, 32, 32, 0, 383, 1023] [0, 0, 2, 6, 15, 31, 63, 63, 0, 383, 1023] 790 262 [0] [(.s, 0), (.f 1 790 262, 10)] (by kernel_rfl) (by kernel_rfl) (by kernel_rfl) (by kernel_rfl) (by kernel_rfl) ?_
    dsimp only [inOrder, nthOp]
    replace hw := hw.drew
    replace k1 := k1.d
    replace k2 := k2.d
    replace k3 := k3.d
    replace f := f.d
    replace f18 := f18.d
    replace f18_1 := f18_1.d
    replace f18_2 := f18_2.d
    replace f14_1 := f14_1.d
    replace f14 := f14.d
    replace f_1 := f_1.d
    refine wl_s (fun _ hk => (o_loadag Try.isAgg27 Try.sizeOf27 rfl (f_1.u (below_of_grown_none hk)) (by rfl))) ?_
    have hw2 := Below.refl w_2.drew.heap.size w_2.drew
    have hg3 := f_1.lt
    have hg4 : g3 < w_2.heap.size := f_1.lt
    have hg5 : g1 < w_2.heap.size := f.lt
    refine wl_forkf (m := 1) (L := 790) (C := 262) (n := 10) (k1 := 1) (k2 := 8) (fun fb fr w' => ∃ g5 A5 c5 B5 d5 C5 e5, fr = [(5, .pointer (some ⟨g5, 0, none⟩)), (34, .agg #[.slice A5 [(([107] : By), ([119] : By))].length c5, .slice B5 [kA, kB].length d5, .slice C5 [kA].length e5]), (35, .bool false)] ++ fb ∧ Blk w' g5 27 [.slice none 0 0, .slice none 0 0, .slice none 0 0] ∧ g1 < g5 ∧ g3 < g5 ∧ Below w_2.drew.heap.size w_2.drew w') [0, 0, 2, 4, 15, 16, 32, 32, 0, 383, 1023] [0, 0, 2, 6, 15, 31, 63, 63, 0, 383, 1023] [1] [8, 1, 2, 3, 4, 5, 6, 7, 9, 10] [9, 10] [(.f 3 790 262, 9)] [(.c, 1), (.c, 2), (.p, 3), (.l, 4), (.p, 5), (.p, 6), (.p, 7), (.l, 9), (.p, 10)] [(.l, 9), (.p, 10)] (by kernel_rfl) (by kernel_rfl) (by kernel_rfl) (by kernel_rfl) (by kernel_rfl) ?_ (fun hj => ?_) (fun hj => ?_) <;> dsimp only [inOrder, nthOp]
    · clear hw2
      rintro fr w' ⟨g5, A5, c5, B5, d5, C5, e55, rfl, f5, h5, h6, hw2⟩
      first | refine rk_frame (by simp only [List.cons_append, List.nil_append, List.drop_succ_cons, List.drop_zero]; rfl) ?_ | refine wl_frame (by simp only [List.cons_append, List.nil_append, List.drop_succ_cons, List.drop_zero]; rfl) ?_
      have shw2 := hw2.size
      simp only [drew_size] at shw2
      replace hw := hw.trans (hw2.mono hw.size)
      replace f_1 := f_1.u hw2
      replace f14 := f14.u hw2
      replace f14_1 := f14_1.u hw2
      replace f18_2 := f18_2.u hw2
      replace f18_1 := f18_1.u hw2
      replace f18 := f18.u hw2
      replace f := f.u hw2
      replace k3 := k3.u hw2
      replace k2 := k2.u hw2
      replace k1 := k1.u hw2
      refine wl_storega Try.sizeOf27 rfl rfl (by rfl) (oneCell_of (by rfl)) f5 (by rfl) ?_
      rintro w_3 f_2 g_2 e_2
      have s_2 := g_2.size
      replace hw := hw.trans (below_of_grownBy g_2.g hw.size (by omega))
      replace k1 := k1.y g_2 (by decide)
      replace k2 := k2.y g_2 (by decide)
      replace k3 := k3.y g_2 (by decide)
      replace f := f.k g_2.g (ap_some (by omega))
      replace f18 := f18.y g_2 (by decide)
      replace f18_1 := f18_1.y g_2 (by decide)
      replace f18_2 := f18_2.y g_2 (by decide)
      replace f14_1 := f14_1.y g_2 (by decide)
      replace f14 := f14.y g_2 (by decide)
      replace f_1 := f_1.k g_2.g (ap_some (by omega))
      clear f5
      refine wl_p (fun _ => o_assign rfl) ?_
      refine wl_nild ?_
      refine rk_seq ?_
      refine rk_region ?_
      refine wl_litC [107] Try.u8 Try.sizeOf5 Try.zeroValue5 (by rfl) rfl rfl (by rfl) (by rfl) (by rfl) ?_
      rintro A37 w37 f37 b37
      have s37 := b37.size
      replace hw := hw.trans (b37.mono hw.size)
      replace f_1 := f_1.u b37
      replace f14 := f14.u b37
      replace f14_1 := f14_1.u b37
      replace f18_2 := f18_2.u b37
      replace f18_1 := f18_1.u b37
      replace f18 := f18.u b37
      replace f := f.u b37
      replace k3 := k3.u b37
      replace k2 := k2.u b37
      replace k1 := k1.u b37
      replace f_2 := f_2.u b37
      refine wl_p (fun _ => (o_bldOp01 rfl rfl)) ?_
      refine wl_litO1 (by rfl) rfl f37 (RdT.nil_) (by rfl) (by rfl) (by simp) (by decide) (by simp) (by omega) (by rfl) (by rfl) ?_
      rintro A40 w40 f40 b40
      have qf40 := f40.cap
      have s40 := b40.size
      replace hw := hw.trans (b40.mono hw.size)
      replace f_2 := f_2.u b40
      replace k1 := k1.u b40
      replace k2 := k2.u b40
      replace k3 := k3.u b40
      replace f := f.u b40
      replace f18 := f18.u b40
      replace f18_1 := f18_1.u b40
      replace f18_2 := f18_2.u b40
      replace f14_1 := f14_1.u b40
      replace f14 := f14.u b40
      replace f_1 := f_1.u b40
      replace f37 := f37.u b40
      refine wl_call rfl (C_opsBytesN _ e4 f40.to_RO (by rfl) (by omega) (by simp)) ?_
      rintro v41 w41 ⟨A41, ⟨c41, ⟨rfl, ⟨f41, b41⟩⟩⟩⟩
      have qf41 := f41.cap
      have s41 := b41.size
      replace hw := hw.trans (b41.mono hw.size)
      replace f37 := f37.u b41
      replace f_1 := f_1.u b41
      replace f14 := f14.u b41
      replace f14_1 := f14_1.u b41
      replace f18_2 := f18_2.u b41
      replace f18_1 := f18_1.u b41
      replace f18 := f18.u b41
      replace f := f.u b41
      replace k3 := k3.u b41
      replace k2 := k2.u b41
      replace k1 := k1.u b41
      replace f_2 := f_2.u b41
      replace f40 := f40.u b41
      refine wl_p (fun _ => o_move rfl) ?_
      refine wl_p (fun _ => o_ext20 rfl) ?_
      refine wl_p (fun _ => o_ext21 rfl) ?_
      refine wl_p (fun _ => o_assign rfl) ?_
      refine wl_p (fun _ => o_assign rfl) ?_
      refine wl_nil ?_
      refine rk_seq ?_
      refine rk_region ?_
      refine wl_call rfl (C_opsReadN _ e5 (Rd.nil_) (by rfl) (by simp)) ?_
      rintro v45 w45 ⟨A45, ⟨c45, ⟨rfl, ⟨f45, b45⟩⟩⟩⟩
      have qf45 := f45.cap
      have s45 := b45.size
      replace hw := hw.trans (b45.mono hw.size)
      replace f40 := f40.u b45
      replace f_2 := f_2.u b45
      replace k1 := k1.u b45
      replace k2 := k2.u b45
      replace k3 := k3.u b45
      replace f := f.u b45
      replace f18 := f18.u b45
      replace f18_1 := f18_1.u b45
      replace f18_2 := f18_2.u b45
      replace f14_1 := f14_1.u b45
      replace f14 := f14.u b45
      replace f_1 := f_1.u b45
      replace f37 := f37.u b45
      replace f41 := f41.u b45
      refine wl_p (fun _ => o_move rfl) ?_
      refine wl_p (fun _ => o_ext20 rfl) ?_
      refine wl_p (fun _ => o_ext21 rfl) ?_
      refine wl_p (fun _ => o_assign rfl) ?_
      refine wl_p (fun _ => o_assign rfl) ?_
      refine wl_nil ?_
      refine rk_seq ?_
      refine rk_region ?_
      refine wl_litB [0] Try.u8 Try.sizeOf5 Try.zeroValue5 (by rfl) rfl rfl (by rfl) (by rfl) (by rfl) ?_
      rintro A49 w49 f49 b49
      have qf49 := f49.cap
      have s49 := b49.size
      replace hw := hw.trans (b49.mono hw.size)
      replace f41 := f41.u b49
      replace f37 := f37.u b49
      replace f_1 := f_1.u b49
      replace f14 := f14.u b49
      replace f14_1 := f14_1.u b49
      replace f18_2 := f18_2.u b49
      replace f18_1 := f18_1.u b49
      replace f18 := f18.u b49
      replace f := f.u b49
      replace k3 := k3.u b49
      replace k2 := k2.u b49
      replace k1 := k1.u b49
      replace f_2 := f_2.u b49
      replace f40 := f40.u b49
      replace f45 := f45.u b49
      refine wl_call rfl (C_opsReadN _ e6 f49.to_Rd (by rfl) (by omega)) ?_
      rintro v50 w50 ⟨A50, ⟨c50, ⟨rfl, ⟨f50, b50⟩⟩⟩⟩
      have qf50 := f50.cap
      have s50 := b50.size
      replace hw := hw.trans (b50.mono hw.size)
      replace f45 := f45.u b50
      replace f40 := f40.u b50
      replace f_2 := f_2.u b50
      replace k1 := k1.u b50
      replace k2 := k2.u b50
      replace k3 := k3.u b50
      replace f := f.u b50
      replace f18 := f18.u b50
      replace f18_1 := f18_1.u b50
      replace f18_2 := f18_2.u b50
      replace f14_1 := f14_1.u b50
      replace f14 := f14.u b50
      replace f_1 := f_1.u b50
      replace f37 := f37.u b50
      replace f41 := f41.u b50
      replace f49 := f49.u b50
      refine wl_p (fun _ => o_move rfl) ?_
      refine wl_p (fun _ => o_ext20 rfl) ?_
      refine wl_p (fun _ => o_ext21 rfl) ?_
      refine wl_p (fun _ => o_assign rfl) ?_
      refine wl_p (fun _ => o_assign rfl) ?_
      refine wl_nil ?_
      refine rk_seq ?_
      refine rk_region ?_
      dsimp only [List.append]
      refine wl_call rfl (C_lives22 _) ?_
      rintro v53 w53 ⟨rfl, b53⟩
      have s53 := b53.size
      replace hw := hw.trans (b53.mono hw.size)
      replace f49 := f49.u b53
      replace f41 := f41.u b53
      replace f37 := f37.u b53
      replace f_1 := f_1.u b53
      replace f14 := f14.u b53
      replace f14_1 := f14_1.u b53
      replace f18_2 := f18_2.u b53
      replace f18_1 := f18_1.u b53
      replace f18 := f18.u b53
      replace f := f.u b53
      replace k3 := k3.u b53
      replace k2 := k2.u b53
      replace k1 := k1.u b53
      replace f_2 := f_2.u b53
      replace f40 := f40.u b53
      replace f45 := f45.u b53
      replace f50 := f50.u b53
      refine wl_p (fun _ => o_move rfl) ?_
      refine wl_p (fun _ => o_move rfl) ?_
      refine wl_p (fun _ => o_pick_t rfl rfl) ?_
      refine wl_p (fun _ => o_move rfl) ?_
      refine wl_p (fun _ => o_move rfl) ?_
      refine wl_p (fun _ => o_not rfl) ?_
      refine wl_p (fun _ => o_pick_t rfl rfl) ?_
      refine wl_p (fun _ => o_move rfl) ?_
      refine wl_p (fun _ => o_move rfl) ?_
      refine wl_p (fun _ => o_eq rfl rfl) ?_
      refine wl_p (fun _ => o_pick_t rfl rfl) ?_
      refine wl_p (fun _ => o_move rfl) ?_
      refine wl_p (fun _ => o_move rfl) ?_
      refine wl_p (fun _ => o_len (t := 23) Try.underlying23 rfl) ?_
      refine wl_p (fun _ => o_gt rfl rfl) ?_
      refine wl_p (fun _ => o_pick_t rfl rfl) ?_
      refine wl_p (fun _ => o_move rfl) ?_
      refine wl_know 70 true rfl (decide_eq_true (by omega)) ?_
      refine wl_p (fun _ => o_move rfl) ?_
      refine wl_p (fun _ => (o_iaddrA1 (0) Try.underlying23 Try.sizeOf5 rfl rfl (by omega) (f41.some_ (by omega)) (by omega))) ?_
      refine wl_r (o_loadB Try.isAgg5 rfl f41.to_Rd (by omega)) ?_
      refine wl_p (fun _ => o_eq rfl rfl) ?_
      refine wl_p (fun _ => o_pick_t rfl rfl) ?_
      refine wl_p (fun _ => o_move rfl) ?_
      have hl0 : 0 < bs.length := by omega
      have hl1 : 1 < bs.length := by omega
      rw [show decide ((bs[0].toNat : Int) = 1) = true by rw [hb0 hl0]; rfl]
      refine wl_p (fun _ => o_move rfl) ?_
      refine wl_p (fun _ => (o_iaddrA1 (1) Try.underlying23 Try.sizeOf5 rfl rfl (by omega) (f41.some_ (by omega)) (by omega))) ?_
      refine wl_r (o_loadB Try.isAgg5 rfl f41.to_Rd (by omega)) ?_
      refine wl_p (fun _ => o_eq rfl rfl) ?_
      refine wl_p (fun _ => o_pick_t rfl rfl) ?_
      refine wl_p (fun _ => o_move rfl) ?_
      rw [show decide ((bs[1].toNat : Int) = 2) = true by rw [hb1 hl1]; rfl]
      refine wl_p (fun _ => o_move rfl) ?_
      refine wl_p (fun _ => o_eq rfl rfl) ?_
      refine wl_p (fun _ => o_pick_t rfl rfl) ?_
      refine wl_p (fun _ => o_move rfl) ?_
      refine wl_p (fun _ => o_move rfl) ?_
      refine wl_p (fun _ => o_eq rfl rfl) ?_
      refine wl_p (fun _ => o_pick_t rfl rfl) ?_
      refine wl_p (fun _ => o_move rfl) ?_
      refine wl_p (fun _ => o_move rfl) ?_
      refine wl_p (fun _ => o_len (t := 22) Try.underlying22 rfl) ?_
      refine wl_p (fun _ => o_eq rfl rfl) ?_
      refine wl_p (fun _ => o_pick_t rfl rfl) ?_
      refine wl_p (fun _ => o_move rfl) ?_
      refine wl_p (fun _ => (o_bldOpz)) ?_
      refine wl_call rfl (C_opsCheckBad _ (by omega) (by omega) (by rfl)) ?_
      rintro v97 w97 ⟨rfl, b97⟩
      have s97 := b97.size
      replace hw := hw.trans (b97.mono hw.size)
      replace f50 := f50.u b97
      replace f45 := f45.u b97
      replace f40 := f40.u b97
      replace f_2 := f_2.u b97
      replace k1 := k1.u b97
      replace k2 := k2.u b97
      replace k3 := k3.u b97
      replace f := f.u b97
      replace f18 := f18.u b97
      replace f18_1 := f18_1.u b97
      replace f18_2 := f18_2.u b97
      replace f14_1 := f14_1.u b97
      replace f14 := f14.u b97
      replace f_1 := f_1.u b97
      replace f37 := f37.u b97
      replace f41 := f41.u b97
      replace f49 := f49.u b97
      refine wl_p (fun _ => o_eq rfl rfl) ?_
      refine wl_p (fun _ => o_pick_t rfl rfl) ?_
      refine wl_p (fun _ => o_move rfl) ?_
      refine wl_litC [107] Try.u8 Try.sizeOf5 Try.zeroValue5 (by rfl) rfl rfl (by rfl) (by rfl) (by rfl) ?_
      rintro A101 w101 f101 b101
      have s101 := b101.size
      replace hw := hw.trans (b101.mono hw.size)
      replace f49 := f49.u b101
      replace f41 := f41.u b101
      replace f37 := f37.u b101
      replace f_1 := f_1.u b101
      replace f14 := f14.u b101
      replace f14_1 := f14_1.u b101
      replace f18_2 := f18_2.u b101
      replace f18_1 := f18_1.u b101
      replace f18 := f18.u b101
      replace f := f.u b101
      replace k3 := k3.u b101
      replace k2 := k2.u b101
      replace k1 := k1.u b101
      replace f_2 := f_2.u b101
      replace f40 := f40.u b101
      replace f45 := f45.u b101
      replace f50 := f50.u b101
      refine wl_litC [118] Try.u8 Try.sizeOf5 Try.zeroValue5 (by rfl) rfl rfl (by rfl) (by rfl) (by rfl) ?_
      rintro A103 w103 f103 b103
      have s103 := b103.size
      replace hw := hw.trans (b103.mono hw.size)
      replace f50 := f50.u b103
      replace f45 := f45.u b103
      replace f40 := f40.u b103
      replace f_2 := f_2.u b103
      replace k1 := k1.u b103
      replace k2 := k2.u b103
      replace k3 := k3.u b103
      replace f := f.u b103
      replace f18 := f18.u b103
      replace f18_1 := f18_1.u b103
      replace f18_2 := f18_2.u b103
      replace f14_1 := f14_1.u b103
      replace f14 := f14.u b103
      replace f_1 := f_1.u b103
      replace f37 := f37.u b103
      replace f41 := f41.u b103
      replace f49 := f49.u b103
      replace f101 := f101.u b103
      refine wl_p (fun _ => (o_bldOp012 rfl rfl rfl)) ?_
      refine wl_call rfl (C_opsCheckBad _ (by omega) (by omega) (by rfl)) ?_
      rintro v106 w106 ⟨rfl, b106⟩
      have s106 := b106.size
      replace hw := hw.trans (b106.mono hw.size)
      replace f101 := f101.u b106
      replace f49 := f49.u b106
      replace f41 := f41.u b106
      replace f37 := f37.u b106
      replace f_1 := f_1.u b106
      replace f14 := f14.u b106
      replace f14_1 := f14_1.u b106
      replace f18_2 := f18_2.u b106
      replace f18_1 := f18_1.u b106
      replace f18 := f18.u b106
      replace f := f.u b106
      replace k3 := k3.u b106
      replace k2 := k2.u b106
      replace k1 := k1.u b106
      replace f_2 := f_2.u b106
      replace f40 := f40.u b106
      replace f45 := f45.u b106
      replace f50 := f50.u b106
      replace f103 := f103.u b106
      refine wl_p (fun _ => o_eq rfl rfl) ?_
      refine wl_p (fun _ => o_pick_t rfl rfl) ?_
      refine wl_p (fun _ => o_move rfl) ?_
      refine wl_p (fun _ => (o_buildg [_, _, _] Try.underlying27 Try.zeroValue27 (by rfl) (by rfl) rfl (by rfl) (by rfl) (fun _ => by kernel_rfl))) ?_
      refine wl_call rfl (C_checkStateBad _ (RI.nil_) (RKs.nil_) (RKs.nil_) (by rfl) (by rfl) (by rfl) (by simp) (by simp) (by simp) (by simp [LtI]) (by omega)) ?_
      rintro v111 w111 ⟨rfl, b111⟩
      have s111 := b111.size
      replace hw := hw.trans (b111.mono hw.size)
      replace f103 := f103.u b111
      replace f50 := f50.u b111
      replace f45 := f45.u b111
      replace f40 := f40.u b111
      replace f_2 := f_2.u b111
      replace k1 := k1.u b111
      replace k2 := k2.u b111
      replace k3 := k3.u b111
      replace f := f.u b111
      replace f18 := f18.u b111
      replace f18_1 := f18_1.u b111
      replace f18_2 := f18_2.u b111
      replace f14_1 := f14_1.u b111
      replace f14 := f14.u b111
      replace f_1 := f_1.u b111
      replace f37 := f37.u b111
      replace f41 := f41.u b111
      replace f49 := f49.u b111
      replace f101 := f101.u b111
      refine wl_p (fun _ => o_eq rfl rfl) ?_
      refine wl_p (fun _ => o_pick_t rfl rfl) ?_
      refine wl_p (fun _ => o_move rfl) ?_
      refine wl_call rfl (C_alone _) ?_
      rintro v115 w115 ⟨B115, ⟨C115, ⟨rfl, ⟨f115, ⟨f115_1, b115⟩⟩⟩⟩⟩
      have s115 := b115.size
      replace hw := hw.trans (b115.mono hw.size)
      replace f101 := f101.u b115
      replace f49 := f49.u b115
      replace f41 := f41.u b115
      replace f37 := f37.u b115
      replace f_1 := f_1.u b115
      replace f14 := f14.u b115
      replace f14_1 := f14_1.u b115
      replace f18_2 := f18_2.u b115
      replace f18_1 := f18_1.u b115
      replace f18 := f18.u b115
      replace f := f.u b115
      replace k3 := k3.u b115
      replace k2 := k2.u b115
      replace k1 := k1.u b115
      replace f_2 := f_2.u b115
      replace f40 := f40.u b115
      replace f45 := f45.u b115
      replace f50 := f50.u b115
      replace f103 := f103.u b115
      refine wl_call rfl (C_checkStateOk _ (RI.nil_) f115.to_RKs f115_1.to_RKs (by rfl) (by rfl) (by rfl) (by simp) (by simp) (by simp) (by simp [LtI]) (by omega)) ?_
      rintro v116 w116 ⟨rfl, b116⟩
      have s116 := b116.size
      replace hw := hw.trans (b116.mono hw.size)
      replace f103 := f103.u b116
      replace f50 := f50.u b116
      replace f45 := f45.u b116
      replace f40 := f40.u b116
      replace f_2 := f_2.u b116
      replace k1 := k1.u b116
      replace k2 := k2.u b116
      replace k3 := k3.u b116
      replace f := f.u b116
      replace f18 := f18.u b116
      replace f18_1 := f18_1.u b116
      replace f18_2 := f18_2.u b116
      replace f14_1 := f14_1.u b116
      replace f14 := f14.u b116
      replace f_1 := f_1.u b116
      replace f37 := f37.u b116
      replace f41 := f41.u b116
      replace f49 := f49.u b116
      replace f101 := f101.u b116
      replace f115_1 := f115_1.u b116
      replace f115 := f115.u b116
      refine wl_p (fun _ => o_eq rfl rfl) ?_
      refine wl_p (fun _ => o_pick_t rfl rfl) ?_
      refine wl_p (fun _ => o_move rfl) ?_
      refine wl_call rfl (C_a _) ?_
      rintro v120 w120 ⟨rfl, b120⟩
      have s120 := b120.size
      replace hw := hw.trans (b120.mono hw.size)
      replace f115 := f115.u b120
      replace f115_1 := f115_1.u b120
      replace f101 := f101.u b120
      replace f49 := f49.u b120
      replace f41 := f41.u b120
      replace f37 := f37.u b120
      replace f_1 := f_1.u b120
      replace f14 := f14.u b120
      replace f14_1 := f14_1.u b120
      replace f18_2 := f18_2.u b120
      replace f18_1 := f18_1.u b120
      replace f18 := f18.u b120
      replace f := f.u b120
      replace k3 := k3.u b120
      replace k2 := k2.u b120
      replace k1 := k1.u b120
      replace f_2 := f_2.u b120
      replace f40 := f40.u b120
      replace f45 := f45.u b120
      replace f50 := f50.u b120
      replace f103 := f103.u b120
      refine wl_litKs1 (by rfl) rfl (by rfl) ?_
      rintro A121 w121 f121 b121
      have qf121 := f121.cap
      have s121 := b121.size
      replace hw := hw.trans (b121.mono hw.size)
      replace f103 := f103.u b121
      replace f50 := f50.u b121
      replace f45 := f45.u b121
      replace f40 := f40.u b121
      replace f_2 := f_2.u b121
      replace k1 := k1.u b121
      replace k2 := k2.u b121
      replace k3 := k3.u b121
      replace f := f.u b121
      replace f18 := f18.u b121
      replace f18_1 := f18_1.u b121
      replace f18_2 := f18_2.u b121
      replace f14_1 := f14_1.u b121
      replace f14 := f14.u b121
      replace f_1 := f_1.u b121
      replace f37 := f37.u b121
      replace f41 := f41.u b121
      replace f49 := f49.u b121
      replace f101 := f101.u b121
      replace f115_1 := f115_1.u b121
      replace f115 := f115.u b121
      refine wl_call rfl (C_a _) ?_
      rintro v122 w122 ⟨rfl, b122⟩
      have s122 := b122.size
      replace hw := hw.trans (b122.mono hw.size)
      replace f115 := f115.u b122
      replace f115_1 := f115_1.u b122
      replace f101 := f101.u b122
      replace f49 := f49.u b122
      replace f41 := f41.u b122
      replace f37 := f37.u b122
      replace f_1 := f_1.u b122
      replace f14 := f14.u b122
      replace f14_1 := f14_1.u b122
      replace f18_2 := f18_2.u b122
      replace f18_1 := f18_1.u b122
      replace f18 := f18.u b122
      replace f := f.u b122
      replace k3 := k3.u b122
      replace k2 := k2.u b122
      replace k1 := k1.u b122
      replace f_2 := f_2.u b122
      replace f40 := f40.u b122
      replace f45 := f45.u b122
      replace f50 := f50.u b122
      replace f103 := f103.u b122
      replace f121 := f121.u b122
      refine wl_call rfl (C_member _ f121.to_RKs (by rfl) (by omega)) ?_
      rintro v123 w123 ⟨rfl, b123⟩
      have s123 := b123.size
      replace hw := hw.trans (b123.mono hw.size)
      replace f121 := f121.u b123
      replace f103 := f103.u b123
      replace f50 := f50.u b123
      replace f45 := f45.u b123
      replace f40 := f40.u b123
      replace f_2 := f_2.u b123
      replace k1 := k1.u b123
      replace k2 := k2.u b123
      replace k3 := k3.u b123
      replace f := f.u b123
      replace f18 := f18.u b123
      replace f18_1 := f18_1.u b123
      replace f18_2 := f18_2.u b123
      replace f14_1 := f14_1.u b123
      replace f14 := f14.u b123
      replace f_1 := f_1.u b123
      replace f37 := f37.u b123
      replace f41 := f41.u b123
      replace f49 := f49.u b123
      replace f101 := f101.u b123
      replace f115_1 := f115_1.u b123
      replace f115 := f115.u b123
      refine wl_p (fun _ => o_pick_t rfl rfl) ?_
      refine wl_p (fun _ => o_move rfl) ?_
      refine wl_call rfl (C_a _) ?_
      rintro v126 w126 ⟨rfl, b126⟩
      have s126 := b126.size
      replace hw := hw.trans (b126.mono hw.size)
      replace f115 := f115.u b126
      replace f115_1 := f115_1.u b126
      replace f101 := f101.u b126
      replace f49 := f49.u b126
      replace f41 := f41.u b126
      replace f37 := f37.u b126
      replace f_1 := f_1.u b126
      replace f14 := f14.u b126
      replace f14_1 := f14_1.u b126
      replace f18_2 := f18_2.u b126
      replace f18_1 := f18_1.u b126
      replace f18 := f18.u b126
      replace f := f.u b126
      replace k3 := k3.u b126
      replace k2 := k2.u b126
      replace k1 := k1.u b126
      replace f_2 := f_2.u b126
      replace f40 := f40.u b126
      replace f45 := f45.u b126
      replace f50 := f50.u b126
      replace f103 := f103.u b126
      replace f121 := f121.u b126
      refine wl_call rfl (C_b _) ?_
      rintro v127 w127 ⟨rfl, b127⟩
      have s127 := b127.size
      replace hw := hw.trans (b127.mono hw.size)
      replace f121 := f121.u b127
      replace f103 := f103.u b127
      replace f50 := f50.u b127
      replace f45 := f45.u b127
      replace f40 := f40.u b127
      replace f_2 := f_2.u b127
      replace k1 := k1.u b127
      replace k2 := k2.u b127
      replace k3 := k3.u b127
      replace f := f.u b127
      replace f18 := f18.u b127
      replace f18_1 := f18_1.u b127
      replace f18_2 := f18_2.u b127
      replace f14_1 := f14_1.u b127
      replace f14 := f14.u b127
      replace f_1 := f_1.u b127
      replace f37 := f37.u b127
      replace f41 := f41.u b127
      replace f49 := f49.u b127
      replace f101 := f101.u b127
      replace f115_1 := f115_1.u b127
      replace f115 := f115.u b127
      refine wl_call rfl (C_opsCompare _) ?_
      rintro v128 w128 ⟨rfl, b128⟩
      have s128 := b128.size
      replace hw := hw.trans (b128.mono hw.size)
      replace f115 := f115.u b128
      replace f115_1 := f115_1.u b128
      replace f101 := f101.u b128
      replace f49 := f49.u b128
      replace f41 := f41.u b128
      replace f37 := f37.u b128
      replace f_1 := f_1.u b128
      replace f14 := f14.u b128
      replace f14_1 := f14_1.u b128
      replace f18_2 := f18_2.u b128
      replace f18_1 := f18_1.u b128
      replace f18 := f18.u b128
      replace f := f.u b128
      replace k3 := k3.u b128
      replace k2 := k2.u b128
      replace k1 := k1.u b128
      replace f_2 := f_2.u b128
      replace f40 := f40.u b128
      replace f45 := f45.u b128
      replace f50 := f50.u b128
      replace f103 := f103.u b128
      replace f121 := f121.u b128
      refine wl_p (fun _ => o_eq rfl rfl) ?_
      refine wl_p (fun _ => o_pick_t rfl rfl) ?_
      refine wl_p (fun _ => o_move rfl) ?_
      refine wl_r (o_loadag Try.isAgg27 Try.sizeOf27 rfl f (by rfl)) ?_
      refine wl_r (o_loadag Try.isAgg27 Try.sizeOf27 rfl f (by rfl)) ?_
      refine wl_call rfl (C_opsSame _ f18.to_RI f18_1.to_RKs f18_2.to_RKs f18.to_RI f18_1.to_RKs f18_2.to_RKs rfl rfl rfl rfl rfl rfl (by simp) (by simp) (by simp) (by omega) (by simp) (by omega)) ?_
      rintro v134 w134 ⟨rfl, b134⟩
      have s134 := b134.size
      replace hw := hw.trans (b134.mono hw.size)
      replace f121 := f121.u b134
      replace f103 := f103.u b134
      replace f50 := f50.u b134
      replace f45 := f45.u b134
      replace f40 := f40.u b134
      replace f_2 := f_2.u b134
      replace k1 := k1.u b134
      replace k2 := k2.u b134
      replace k3 := k3.u b134
      replace f := f.u b134
      replace f18 := f18.u b134
      replace f18_1 := f18_1.u b134
      replace f18_2 := f18_2.u b134
      replace f14_1 := f14_1.u b134
      replace f14 := f14.u b134
      replace f_1 := f_1.u b134
      replace f37 := f37.u b134
      replace f41 := f41.u b134
      replace f49 := f49.u b134
      replace f101 := f101.u b134
      replace f115_1 := f115_1.u b134
      replace f115 := f115.u b134
      refine wl_p (fun _ => o_pick_t rfl rfl) ?_
      refine wl_p (fun _ => o_move rfl) ?_
      refine wl_call rfl (C_put _ (by simp) (by simp)) ?_
      rintro v137 w137 ⟨K137, ⟨c137, ⟨V137, ⟨d137, ⟨rfl, ⟨f137, ⟨i137, ⟨i137_1, ⟨f137_1, ⟨i137_2, ⟨i137_3, b137⟩⟩⟩⟩⟩⟩⟩⟩⟩⟩⟩
      have s137 := b137.size
      replace hw := hw.trans (b137.mono hw.size)
      replace f115 := f115.u b137
      replace f115_1 := f115_1.u b137
      replace f101 := f101.u b137
      replace f49 := f49.u b137
      replace f41 := f41.u b137
      replace f37 := f37.u b137
      replace f_1 := f_1.u b137
      replace f14 := f14.u b137
      replace f14_1 := f14_1.u b137
      replace f18_2 := f18_2.u b137
      replace f18_1 := f18_1.u b137
      replace f18 := f18.u b137
      replace f := f.u b137
      replace k3 := k3.u b137
      replace k2 := k2.u b137
      replace k1 := k1.u b137
      replace f_2 := f_2.u b137
      replace f40 := f40.u b137
      replace f45 := f45.u b137
      replace f50 := f50.u b137
      replace f103 := f103.u b137
      replace f121 := f121.u b137
      refine wl_call rfl (C_put _ (by simp) (by simp)) ?_
      rintro v138 w138 ⟨K138, ⟨c138, ⟨V138, ⟨d138, ⟨rfl, ⟨f138, ⟨i138, ⟨i138_1, ⟨f138_1, ⟨i138_2, ⟨i138_3, b138⟩⟩⟩⟩⟩⟩⟩⟩⟩⟩⟩
      have s138 := b138.size
      replace hw := hw.trans (b138.mono hw.size)
      replace f121 := f121.u b138
      replace f103 := f103.u b138
      replace f50 := f50.u b138
      replace f45 := f45.u b138
      replace f40 := f40.u b138
      replace f_2 := f_2.u b138
      replace k1 := k1.u b138
      replace k2 := k2.u b138
      replace k3 := k3.u b138
      replace f := f.u b138
      replace f18 := f18.u b138
      replace f18_1 := f18_1.u b138
      replace f18_2 := f18_2.u b138
      replace f14_1 := f14_1.u b138
      replace f14 := f14.u b138
      replace f_1 := f_1.u b138
      replace f37 := f37.u b138
      replace f41 := f41.u b138
      replace f49 := f49.u b138
      replace f101 := f101.u b138
      replace f115_1 := f115_1.u b138
      replace f115 := f115.u b138
      replace f137_1 := f137_1.u b138
      replace f137 := f137.u b138
      refine wl_call rfl (C_sameOp _ f137.to_Rd f137_1.to_Rd f138.to_Rd f138_1.to_Rd rfl rfl rfl rfl) ?_
      rintro v139 w139 ⟨rfl, b139⟩
      have s139 := b139.size
      replace hw := hw.trans (b139.mono hw.size)
      replace f137 := f137.u b139
      replace f137_1 := f137_1.u b139
      replace f115 := f115.u b139
      replace f115_1 := f115_1.u b139
      replace f101 := f101.u b139
      replace f49 := f49.u b139
      replace f41 := f41.u b139
      replace f37 := f37.u b139
      replace f_1 := f_1.u b139
      replace f14 := f14.u b139
      replace f14_1 := f14_1.u b139
      replace f18_2 := f18_2.u b139
      replace f18_1 := f18_1.u b139
      replace f18 := f18.u b139
      replace f := f.u b139
      replace k3 := k3.u b139
      replace k2 := k2.u b139
      replace k1 := k1.u b139
      replace f_2 := f_2.u b139
      replace f40 := f40.u b139
      replace f45 := f45.u b139
      replace f50 := f50.u b139
      replace f103 := f103.u b139
      replace f121 := f121.u b139
      replace f138_1 := f138_1.u b139
      replace f138 := f138.u b139
      refine wl_p (fun _ => o_pick_t rfl rfl) ?_
      refine wl_p (fun _ => o_move rfl) ?_
      refine wl_p (fun _ => o_pick_t rfl rfl) ?_
      refine wl_p (fun _ => o_assign rfl) ?_
      refine wl_nil ?_
      refine ret1 rfl rfl ?_
      exact ⟨rfl, hw⟩
    · refine wl_call rfl (C_b _) ?_ (hq := .inr fun _ _ h => grown_of_below h.2 _)
      rintro v30 w30 ⟨rfl, b30⟩
      simp only [drew_size] at b30
      have s30 := b30.size
      simp only [drew_size] at s30
      replace hw := hw.trans (b30.mono hw.size)
      replace hw2 := hw2.trans (b30.mono hw2.size)
      replace f_1 := f_1.u b30
      replace f14 := f14.u b30
      replace f14_1 := f14_1.u b30
      replace f18_2 := f18_2.u b30
      replace f18_1 := f18_1.u b30
      replace f18 := f18.u b30
      replace f := f.u b30
      replace k3 := k3.u b30
      replace k2 := k2.u b30
      replace k1 := k1.u b30
      refine wl_fork2j (m := 3) (L := 790) (C := 262) (n := 9) (k1 := 2) (k2 := 8) _ [0, 0, 2, 4, 15, 16, 32, 32, 0, 383, 1023] [0, 0, 2, 6, 15, 31, 63, 63, 0, 383, 1023] [2, 3] [8, 2, 3, 4, 5, 6, 7, 9, 10] [9, 10] [(.p, 3), (.f 15 790 262, 7)] [(.c, 2), (.p, 3), (.l, 4), (.p, 5), (.p, 6), (.p, 7), (.l, 9), (.p, 10)] [(.l, 9), (.p, 10)] (by kernel_rfl) (by kernel_rfl) (by kernel_rfl) (by kernel_rfl) (by kernel_rfl) hj (fun hj => ?_) (fun hj => ?_) <;> dsimp only [inOrder, nthOp]
      · refine wl_call rfl (C_b _) ?_ (hq := .inr fun _ _ h => grown_of_below h.2 _)
        rintro v31 w31 ⟨rfl, b31⟩
        have s31 := b31.size
        replace hw := hw.trans (b31.mono hw.size)
        replace hw2 := hw2.trans (b31.mono hw2.size)
        replace k1 := k1.u b31
        replace k2 := k2.u b31
        replace k3 := k3.u b31
        replace f := f.u b31
        replace f18 := f18.u b31
        replace f18_1 := f18_1.u b31
        replace f18_2 := f18_2.u b31
        replace f14_1 := f14_1.u b31
        replace f14 := f14.u b31
        replace f_1 := f_1.u b31
        refine wl_p (fun _ => (o_bldOp03 rfl rfl)) ?_
        refine wl_fork2j (m := 15) (L := 790) (C := 262) (n := 7) (k1 := 4) (k2 := 8) _ [0, 0, 2, 4, 15, 16, 32, 32, 0, 383, 1023] [0, 0, 2, 6, 15, 31, 63, 63, 0, 383, 1023] [4, 5, 6, 7, 8, 9, 10] [8, 4, 5, 6, 7, 9, 10] [9, 10] [(.p, 5), (.p, 6), (.p, 7), (.c, 8), (.l, 9), (.p, 10)] [(.l, 4), (.p, 5), (.p, 6), (.p, 7), (.l, 9), (.p, 10)] [(.l, 9), (.p, 10)] (by kernel_rfl) (by kernel_rfl) (by kernel_rfl) (by kernel_rfl) (by kernel_rfl) hj (fun hj => ?_) (fun hj => ?_) <;> dsimp only [inOrder, nthOp]
        · refine wl_call rfl (C_opsStepN _ e3 k1.to_RI k2.to_RKs k3.to_RKs (Rd.nil_) (Rd.nil_) rfl rfl rfl (by rfl) (by rfl) (by simp) (by simp) (by simp) (by simp [LtI]) (by simp) (by simp)) ?_
          rintro v33 w33 ⟨A33, ⟨c33, ⟨B33, ⟨d33, ⟨C33, ⟨e33, ⟨rfl, ⟨f33, ⟨f33_1, ⟨f33_2, b33⟩⟩⟩⟩⟩⟩⟩⟩⟩⟩
          have qf33 := f33.cap
          have qf33_1 := f33_1.cap
          have qf33_2 := f33_2.cap
          have s33 := b33.size
          replace hw := hw.trans (b33.mono hw.size)
          replace hw2 := hw2.trans (b33.mono hw2.size)
          replace f_1 := f_1.u b33
          replace f14 := f14.u b33
          replace f14_1 := f14_1.u b33
          replace f18_2 := f18_2.u b33
          replace f18_1 := f18_1.u b33
          replace f18 := f18.u b33
          replace f := f.u b33
          replace k3 := k3.u b33
          replace k2 := k2.u b33
          replace k1 := k1.u b33
          refine wl_p (fun _ => o_move rfl) ?_
          refine wl_p (fun _ => o_ext20 rfl) ?_
          refine wl_p (fun _ => o_ext21 rfl) ?_
          refine wl_allocg [_, _, _] Try.zeroValue27 (by rfl) ?_
          rintro g5 w5 f5 b5 i5 i5_1
          have s5 := b5.size
          replace hw := hw.trans (b5.mono hw.size)
          replace hw2 := hw2.trans (b5.mono hw2.size)
          replace k1 := k1.u b5
          replace k2 := k2.u b5
          replace k3 := k3.u b5
          replace f := f.u b5
          replace f18 := f18.u b5
          replace f18_1 := f18_1.u b5
          replace f18_2 := f18_2.u b5
          replace f14_1 := f14_1.u b5
          replace f14 := f14.u b5
          replace f_1 := f_1.u b5
          replace f33_2 := f33_2.u b5
          replace f33_1 := f33_1.u b5
          replace f33 := f33.u b5
          exact wl_tof hj (Fr.le_of (by kernel_rfl) (by kernel_rfl) (by repeat' constructor)) ⟨g5, _, _, _, _, _, _, rfl, f5, by omega, by omega, hw2⟩
        · refine wl_allocg [_, _, _] Try.zeroValue27 (by rfl) ?_
          rintro g5 w5 f5 b5 i5 i5_1
          have s5 := b5.size
          replace hw := hw.trans (b5.mono hw.size)
          replace hw2 := hw2.trans (b5.mono hw2.size)
          replace f_1 := f_1.u b5
          replace f14 := f14.u b5
          replace f14_1 := f14_1.u b5
          replace f18_2 := f18_2.u b5
          replace f18_1 := f18_1.u b5
          replace f18 := f18.u b5
          replace f := f.u b5
          replace k3 := k3.u b5
          replace k2 := k2.u b5
          replace k1 := k1.u b5
          refine wl_call rfl (C_opsStepN _ e3 k1.to_RI k2.to_RKs k3.to_RKs (Rd.nil_) (Rd.nil_) rfl rfl rfl (by rfl) (by rfl) (by simp) (by simp) (by simp) (by simp [LtI]) (by simp) (by simp)) ?_
          rintro v33 w33 ⟨A33, ⟨c33, ⟨B33, ⟨d33, ⟨C33, ⟨e33, ⟨rfl, ⟨f33, ⟨f33_1, ⟨f33_2, b33⟩⟩⟩⟩⟩⟩⟩⟩⟩⟩
          have qf33 := f33.cap
          have qf33_1 := f33_1.cap
          have qf33_2 := f33_2.cap
          have s33 := b33.size
          replace hw := hw.trans (b33.mono hw.size)
          replace hw2 := hw2.trans (b33.mono hw2.size)
          replace k1 := k1.u b33
          replace k2 := k2.u b33
          replace k3 := k3.u b33
          replace f := f.u b33
          replace f18 := f18.u b33
          replace f18_1 := f18_1.u b33
          replace f18_2 := f18_2.u b33
          replace f14_1 := f14_1.u b33
          replace f14 := f14.u b33
          replace f_1 := f_1.u b33
          replace f5 := f5.u b33
          refine wl_p (fun _ => o_move rfl) ?_
          refine wl_p (fun _ => o_ext20 rfl) ?_
          refine wl_p (fun _ => o_ext21 rfl) ?_
          exact wl_tof hj (Fr.le_of (by kernel_rfl) (by kernel_rfl) (by repeat' constructor)) ⟨g5, _, _, _, _, _, _, rfl, f5, by omega, by omega, hw2⟩
      · refine wl_allocg [_, _, _] Try.zeroValue27 (by rfl) ?_
        rintro g5 w5 f5 b5 i5 i5_1
        have s5 := b5.size
        replace hw := hw.trans (b5.mono hw.size)
        replace hw2 := hw2.trans (b5.mono hw2.size)
        replace k1 := k1.u b5
        replace k2 := k2.u b5
        replace k3 := k3.u b5
        replace f := f.u b5
        replace f18 := f18.u b5
        replace f18_1 := f18_1.u b5
        replace f18_2 := f18_2.u b5
        replace f14_1 := f14_1.u b5
        replace f14 := f14.u b5
        replace f_1 := f_1.u b5
        refine wl_call rfl (C_b _) ?_ (hq := .inr fun _ _ h => grown_of_below h.2 _)
        rintro v31 w31 ⟨rfl, b31⟩
        have s31 := b31.size
        replace hw := hw.trans (b31.mono hw.size)
        replace hw2 := hw2.trans (b31.mono hw2.size)
        replace f_1 := f_1.u b31
        replace f14 := f14.u b31
        replace f14_1 := f14_1.u b31
        replace f18_2 := f18_2.u b31
        replace f18_1 := f18_1.u b31
        replace f18 := f18.u b31
        replace f := f.u b31
        replace k3 := k3.u b31
        replace k2 := k2.u b31
        replace k1 := k1.u b31
        replace f5 := f5.u b31
        refine wl_p (fun _ => (o_bldOp03 rfl rfl)) ?_
        refine wl_call rfl (C_opsStepN _ e3 k1.to_RI k2.to_RKs k3.to_RKs (Rd.nil_) (Rd.nil_) rfl rfl rfl (by rfl) (by rfl) (by simp) (by simp) (by simp) (by simp [LtI]) (by simp) (by simp)) ?_
        rintro v33 w33 ⟨A33, ⟨c33, ⟨B33, ⟨d33, ⟨C33, ⟨e33, ⟨rfl, ⟨f33, ⟨f33_1, ⟨f33_2, b33⟩⟩⟩⟩⟩⟩⟩⟩⟩⟩
        have qf33 := f33.cap
        have qf33_1 := f33_1.cap
        have qf33_2 := f33_2.cap
        have s33 := b33.size
        replace hw := hw.trans (b33.mono hw.size)
        replace hw2 := hw2.trans (b33.mono hw2.size)
        replace f5 := f5.u b33
        replace k1 := k1.u b33
        replace k2 := k2.u b33
        replace k3 := k3.u b33
        replace f := f.u b33
        replace f18 := f18.u b33
        replace f18_1 := f18_1.u b33
        replace f18_2 := f18_2.u b33
        replace f14_1 := f14_1.u b33
        replace f14 := f14.u b33
        replace f_1 := f_1.u b33
        refine wl_p (fun _ => o_move rfl) ?_
        refine wl_p (fun _ => o_ext20 rfl) ?_
        refine wl_p (fun _ => o_ext21 rfl) ?_
        exact wl_tof hj (Fr.le_of (by kernel_rfl) (by kernel_rfl) (by repeat' constructor)) ⟨g5, _, _, _, _, _, _, rfl, f5, by omega, by omega, hw2⟩
    · refine wl_allocg [_, _, _] Try.zeroValue27 (by rfl) ?_
      rintro g5 w5 f5 b5 i5 i5_1
      simp only [drew_size] at b5
      simp only [drew_size] at i5
      have s5 := b5.size
      simp only [drew_size] at s5
      replace hw := hw.trans (b5.mono hw.size)
      replace hw2 := hw2.trans (b5.mono hw2.size)
      replace f_1 := f_1.u b5
      replace f14 := f14.u b5
      replace f14_1 := f14_1.u b5
      replace f18_2 := f18_2.u b5
      replace f18_1 := f18_1.u b5
      replace f18 := f18.u b5
      replace f := f.u b5
      replace k3 := k3.u b5
      replace k2 := k2.u b5
      replace k1 := k1.u b5
      refine wl_call rfl (C_b _) ?_ (hq := .inr fun _ _ h => grown_of_below h.2 _)
      rintro v30 w30 ⟨rfl, b30⟩
      have s30 := b30.size
      replace hw := hw.trans (b30.mono hw.size)
      replace hw2 := hw2.trans (b30.mono hw2.size)
      replace k1 := k1.u b30
      replace k2 := k2.u b30
      replace k3 := k3.u b30
      replace f := f.u b30
      replace f18 := f18.u b30
      replace f18_1 := f18_1.u b30
      replace f18_2 := f18_2.u b30
      replace f14_1 := f14_1.u b30
      replace f14 := f14.u b30
      replace f_1 := f_1.u b30
      replace f5 := f5.u b30
      refine wl_call rfl (C_b _) ?_ (hq := .inr fun _ _ h => grown_of_below h.2 _)
      rintro v31 w31 ⟨rfl, b31⟩
      have s31 := b31.size
      replace hw := hw.trans (b31.mono hw.size)
      replace hw2 := hw2.trans (b31.mono hw2.size)
      replace f5 := f5.u b31
      replace f_1 := f_1.u b31
      replace f14 := f14.u b31
      replace f14_1 := f14_1.u b31
      replace f18_2 := f18_2.u b31
      replace f18_1 := f18_1.u b31
      replace f18 := f18.u b31
      replace f := f.u b31
      replace k3 := k3.u b31
      replace k2 := k2.u b31
      replace k1 := k1.u b31
      refine wl_p (fun _ => (o_bldOp03 rfl rfl)) ?_
      refine wl_call rfl (C_opsStepN _ e3 k1.to_RI k2.to_RKs k3.to_RKs (Rd.nil_) (Rd.nil_) rfl rfl rfl (by rfl) (by rfl) (by simp) (by simp) (by simp) (by simp [LtI]) (by simp) (by simp)) ?_
      rintro v33 w33 ⟨A33, ⟨c33, ⟨B33, ⟨d33, ⟨C33, ⟨e33, ⟨rfl, ⟨f33, ⟨f33_1, ⟨f33_2, b33⟩⟩⟩⟩⟩⟩⟩⟩⟩⟩
      have qf33 := f33.cap
      have qf33_1 := f33_1.cap
      have qf33_2 := f33_2.cap
      have s33 := b33.size
      replace hw := hw.trans (b33.mono hw.size)
      replace hw2 := hw2.trans (b33.mono hw2.size)
      replace k1 := k1.u b33
      replace k2 := k2.u b33
      replace k3 := k3.u b33
      replace f := f.u b33
      replace f18 := f18.u b33
      replace f18_1 := f18_1.u b33
      replace f18_2 := f18_2.u b33
      replace f14_1 := f14_1.u b33
      replace f14 := f14.u b33
      replace f_1 := f_1.u b33
      replace f5 := f5.u b33
      refine wl_p (fun _ => o_move rfl) ?_
      refine wl_p (fun _ => o_ext20 rfl) ?_
      refine wl_p (fun _ => o_ext21 rfl) ?_
      exact wl_tof hj (Fr.le_of (by kernel_rfl) (by kernel_rfl) (by repeat' constructor)) ⟨g5, _, _, _, _, _, _, rfl, f5, by omega, by omega, hw2⟩
  · refine wl_call rfl (C_b _) ?_ (hq := .inr fun _ _ h => grown_of_below h.2 _)
    rintro v23 w23 ⟨rfl, b23⟩
    simp only [drew_size] at b23
    have s23 := b23.size
    simp only [drew_size] at s23
    replace hw := hw.trans (b23.mono hw.size)
    replace hw1 := hw1.trans (b23.mono hw1.size)
    replace f := f.u b23
    replace f18 := f18.u b23
    replace f18_1 := f18_1.u b23
    replace f18_2 := f18_2.u b23
    replace f14_1 := f14_1.u b23
    replace f14 := f14.u b23
    refine wl_fork2j (m := 3) (L := 398) (C := 134) (n := 8) (k1 := 2) (k2 := 7) _ [0, 0, 2, 7, 8, 16, 16, 0, 191, 511] [0, 0, 2, 7, 15, 31, 31, 0, 191, 511] [2] [7, 2, 3, 4, 5, 6, 8, 9] [8, 9] [(.f 7 398 134, 7)] [(.c, 2), (.l, 3), (.p, 4), (.p, 5), (.p, 6), (.l, 8), (.p, 9)] [(.l, 8), (.p, 9)] (by kernel_rfl) (by kernel_rfl) (by kernel_rfl) (by kernel_rfl) (by kernel_rfl) hj (fun hj => ?_) (fun hj => ?_) <;> dsimp only [inOrder, nthOp]
    · refine wl_call rfl (C_put _ (by simp) (by simp)) ?_ (hq := .inr fun _ _ h => grown_of_below h.choose_spec.choose_spec.choose_spec.choose_spec.2.2.2.2.2.2.2 _)
      rintro v24 w24 ⟨K24, ⟨c24, ⟨V24, ⟨d24, ⟨rfl, ⟨f24, ⟨i24, ⟨i24_1, ⟨f24_1, ⟨i24_2, ⟨i24_3, b24⟩⟩⟩⟩⟩⟩⟩⟩⟩⟩⟩
      have s24 := b24.size
      replace hw := hw.trans (b24.mono hw.size)
      replace hw1 := hw1.trans (b24.mono hw1.size)
      replace f14 := f14.u b24
      replace f14_1 := f14_1.u b24
      replace f18_2 := f18_2.u b24
      replace f18_1 := f18_1.u b24
      replace f18 := f18.u b24
      replace f := f.u b24
      refine wl_fork2j (m := 7) (L := 398) (C := 134) (n := 7) (k1 := 3) (k2 := 7) _ [0, 0, 2, 7, 8, 16, 16, 0, 191, 511] [0, 0, 2, 7, 15, 31, 31, 0, 191, 511] [3, 4, 5, 6, 7, 8, 9] [7, 3, 4, 5, 6, 8, 9] [8, 9] [(.p, 4), (.p, 5), (.p, 6), (.c, 7), (.l, 8), (.p, 9)] [(.l, 3), (.p, 4), (.p, 5), (.p, 6), (.l, 8), (.p, 9)] [(.l, 8), (.p, 9)] (by kernel_rfl) (by kernel_rfl) (by kernel_rfl) (by kernel_rfl) (by kernel_rfl) hj (fun hj => ?_) (fun hj => ?_) <;> dsimp only [inOrder, nthOp]
      · refine wl_call rfl (C_opsStepN _ e2 f18.to_RI f18_1.to_RKs f18_2.to_RKs f24.to_Rd f24_1.to_Rd rfl rfl rfl rfl rfl (by simp) (by simp) (by simp) (by simp [LtI]) (by simp) (by simp)) ?_
        rintro v25 w25 ⟨A25, ⟨c25, ⟨B25, ⟨d25, ⟨C25, ⟨e25, ⟨rfl, ⟨f25, ⟨f25_1, ⟨f25_2, b25⟩⟩⟩⟩⟩⟩⟩⟩⟩⟩
        have qf25 := f25.cap
        have qf25_1 := f25_1.cap
        have qf25_2 := f25_2.cap
        have s25 := b25.size
        replace hw := hw.trans (b25.mono hw.size)
        replace hw1 := hw1.trans (b25.mono hw1.size)
        replace f := f.u b25
        replace f18 := f18.u b25
        replace f18_1 := f18_1.u b25
        replace f18_2 := f18_2.u b25
        replace f14_1 := f14_1.u b25
        replace f14 := f14.u b25
        replace f24_1 := f24_1.u b25
        replace f24 := f24.u b25
        refine wl_p (fun _ => o_move rfl) ?_
        refine wl_p (fun _ => o_ext20 rfl) ?_
        refine wl_p (fun _ => o_ext21 rfl) ?_
        refine wl_allocg [_, _, _] Try.zeroValue27 (by rfl) ?_
        rintro g3 w3 f3 b3 i3 i3_1
        have s3 := b3.size
        replace hw := hw.trans (b3.mono hw.size)
        replace hw1 := hw1.trans (b3.mono hw1.size)
        replace f24 := f24.u b3
        replace f24_1 := f24_1.u b3
        replace f14 := f14.u b3
        replace f14_1 := f14_1.u b3
        replace f18_2 := f18_2.u b3
        replace f18_1 := f18_1.u b3
        replace f18 := f18.u b3
        replace f := f.u b3
        replace f25_2 := f25_2.u b3
        replace f25_1 := f25_1.u b3
        replace f25 := f25.u b3
        exact wl_tof hj (Fr.le_of (by kernel_rfl) (by kernel_rfl) (by repeat' constructor)) ⟨g3, _, _, _, _, _, _, rfl, f3, by omega, f25.to_RIT, f25_1.to_RKT, f25_2.to_RKT, hw1⟩
      · refine wl_allocg [_, _, _] Try.zeroValue27 (by rfl) ?_
        rintro g3 w3 f3 b3 i3 i3_1
        have s3 := b3.size
        replace hw := hw.trans (b3.mono hw.size)
        replace hw1 := hw1.trans (b3.mono hw1.size)
        replace f := f.u b3
        replace f18 := f18.u b3
        replace f18_1 := f18_1.u b3
        replace f18_2 := f18_2.u b3
        replace f14_1 := f14_1.u b3
        replace f14 := f14.u b3
        replace f24_1 := f24_1.u b3
        replace f24 := f24.u b3
        refine wl_call rfl (C_opsStepN _ e2 f18.to_RI f18_1.to_RKs f18_2.to_RKs f24.to_Rd f24_1.to_Rd rfl rfl rfl rfl rfl (by simp) (by simp) (by simp) (by simp [LtI]) (by simp) (by simp)) ?_
        rintro v25 w25 ⟨A25, ⟨c25, ⟨B25, ⟨d25, ⟨C25, ⟨e25, ⟨rfl, ⟨f25, ⟨f25_1, ⟨f25_2, b25⟩⟩⟩⟩⟩⟩⟩⟩⟩⟩
        have qf25 := f25.cap
        have qf25_1 := f25_1.cap
        have qf25_2 := f25_2.cap
        have s25 := b25.size
        replace hw := hw.trans (b25.mono hw.size)
        replace hw1 := hw1.trans (b25.mono hw1.size)
        replace f24 := f24.u b25
        replace f24_1 := f24_1.u b25
        replace f14 := f14.u b25
        replace f14_1 := f14_1.u b25
        replace f18_2 := f18_2.u b25
        replace f18_1 := f18_1.u b25
        replace f18 := f18.u b25
        replace f := f.u b25
        replace f3 := f3.u b25
        refine wl_p (fun _ => o_move rfl) ?_
        refine wl_p (fun _ => o_ext20 rfl) ?_
        refine wl_p (fun _ => o_ext21 rfl) ?_
        exact wl_tof hj (Fr.le_of (by kernel_rfl) (by kernel_rfl) (by repeat' constructor)) ⟨g3, _, _, _, _, _, _, rfl, f3, by omega, f25.to_RIT, f25_1.to_RKT, f25_2.to_RKT, hw1⟩
    · refine wl_allocg [_, _, _] Try.zeroValue27 (by rfl) ?_
      rintro g3 w3 f3 b3 i3 i3_1
      have s3 := b3.size
      replace hw := hw.trans (b3.mono hw.size)
      replace hw1 := hw1.trans (b3.mono hw1.size)
      replace f14 := f14.u b3
      replace f14_1 := f14_1.u b3
      replace f18_2 := f18_2.u b3
      replace f18_1 := f18_1.u b3
      replace f18 := f18.u b3
      replace f := f.u b3
      refine wl_call rfl (C_put _ (by simp) (by simp)) ?_ (hq := .inr fun _ _ h => grown_of_below h.choose_spec.choose_spec.choose_spec.choose_spec.2.2.2.2.2.2.2 _)
      rintro v24 w24 ⟨K24, ⟨c24, ⟨V24, ⟨d24, ⟨rfl, ⟨f24, ⟨i24, ⟨i24_1, ⟨f24_1, ⟨i24_2, ⟨i24_3, b24⟩⟩⟩⟩⟩⟩⟩⟩⟩⟩⟩
      have s24 := b24.size
      replace hw := hw.trans (b24.mono hw.size)
      replace hw1 := hw1.trans (b24.mono hw1.size)
      replace f := f.u b24
      replace f18 := f18.u b24
      replace f18_1 := f18_1.u b24
      replace f18_2 := f18_2.u b24
      replace f14_1 := f14_1.u b24
      replace f14 := f14.u b24
      replace f3 := f3.u b24
      refine wl_call rfl (C_opsStepN _ e2 f18.to_RI f18_1.to_RKs f18_2.to_RKs f24.to_Rd f24_1.to_Rd rfl rfl rfl rfl rfl (by simp) (by simp) (by simp) (by simp [LtI]) (by simp) (by simp)) ?_
      rintro v25 w25 ⟨A25, ⟨c25, ⟨B25, ⟨d25, ⟨C25, ⟨e25, ⟨rfl, ⟨f25, ⟨f25_1, ⟨f25_2, b25⟩⟩⟩⟩⟩⟩⟩⟩⟩⟩
      have qf25 := f25.cap
      have qf25_1 := f25_1.cap
      have qf25_2 := f25_2.cap
      have s25 := b25.size
      replace hw := hw.trans (b25.mono hw.size)
      replace hw1 := hw1.trans (b25.mono hw1.size)
      replace f3 := f3.u b25
      replace f14 := f14.u b25
      replace f14_1 := f14_1.u b25
      replace f18_2 := f18_2.u b25
      replace f18_1 := f18_1.u b25
      replace f18 := f18.u b25
      replace f := f.u b25
      replace f24_1 := f24_1.u b25
      replace f24 := f24.u b25
      refine wl_p (fun _ => o_move rfl) ?_
      refine wl_p (fun _ => o_ext20 rfl) ?_
      refine wl_p (fun _ => o_ext21 rfl) ?_
      exact wl_tof hj (Fr.le_of (by kernel_rfl) (by kernel_rfl) (by repeat' constructor)) ⟨g3, _, _, _, _, _, _, rfl, f3, by omega, f25.to_RIT, f25_1.to_RKT, f25_2.to_RKT, hw1⟩
  · refine wl_allocg [_, _, _] Try.zeroValue27 (by rfl) ?_
    rintro g3 w3 f3 b3 i3 i3_1
    simp only [drew_size] at b3
    simp only [drew_size] at i3
    have s3 := b3.size
    simp only [drew_size] at s3
    replace hw := hw.trans (b3.mono hw.size)
    replace hw1 := hw1.trans (b3.mono hw1.size)
    replace f := f.u b3
    replace f18 := f18.u b3
    replace f18_1 := f18_1.u b3
    replace f18_2 := f18_2.u b3
    replace f14_1 := f14_1.u b3
    replace f14 := f14.u b3
    refine wl_call rfl (C_b _) ?_ (hq := .inr fun _ _ h => grown_of_below h.2 _)
    rintro v23 w23 ⟨rfl, b23⟩
    have s23 := b23.size
    replace hw := hw.trans (b23.mono hw.size)
    replace hw1 := hw1.trans (b23.mono hw1.size)
    replace f14 := f14.u b23
    replace f14_1 := f14_1.u b23
    replace f18_2 := f18_2.u b23
    replace f18_1 := f18_1.u b23
    replace f18 := f18.u b23
    replace f := f.u b23
    replace f3 := f3.u b23
    refine wl_call rfl (C_put _ (by simp) (by simp)) ?_ (hq := .inr fun _ _ h => grown_of_below h.choose_spec.choose_spec.choose_spec.choose_spec.2.2.2.2.2.2.2 _)
    rintro v24 w24 ⟨K24, ⟨c24, ⟨V24, ⟨d24, ⟨rfl, ⟨f24, ⟨i24, ⟨i24_1, ⟨f24_1, ⟨i24_2, ⟨i24_3, b24⟩⟩⟩⟩⟩⟩⟩⟩⟩⟩⟩
    have s24 := b24.size
    replace hw := hw.trans (b24.mono hw.size)
    replace hw1 := hw1.trans (b24.mono hw1.size)
    replace f3 := f3.u b24
    replace f := f.u b24
    replace f18 := f18.u b24
    replace f18_1 := f18_1.u b24
    replace f18_2 := f18_2.u b24
    replace f14_1 := f14_1.u b24
    replace f14 := f14.u b24
    refine wl_call rfl (C_opsStepN _ e2 f18.to_RI f18_1.to_RKs f18_2.to_RKs f24.to_Rd f24_1.to_Rd rfl rfl rfl rfl rfl (by simp) (by simp) (by simp) (by simp [LtI]) (by simp) (by simp)) ?_
    rintro v25 w25 ⟨A25, ⟨c25, ⟨B25, ⟨d25, ⟨C25, ⟨e25, ⟨rfl, ⟨f25, ⟨f25_1, ⟨f25_2, b25⟩⟩⟩⟩⟩⟩⟩⟩⟩⟩
    have qf25 := f25.cap
    have qf25_1 := f25_1.cap
    have qf25_2 := f25_2.cap
    have s25 := b25.size
    replace hw := hw.trans (b25.mono hw.size)
    replace hw1 := hw1.trans (b25.mono hw1.size)
    replace f14 := f14.u b25
    replace f14_1 := f14_1.u b25
    replace f18_2 := f18_2.u b25
    replace f18_1 := f18_1.u b25
    replace f18 := f18.u b25
    replace f := f.u b25
    replace f3 := f3.u b25
    replace f24_1 := f24_1.u b25
    replace f24 := f24.u b25
    refine wl_p (fun _ => o_move rfl) ?_
    refine wl_p (fun _ => o_ext20 rfl) ?_
    refine wl_p (fun _ => o_ext21 rfl) ?_
    exact wl_tof hj (Fr.le_of (by kernel_rfl) (by kernel_rfl) (by repeat' constructor)) ⟨g3, _, _, _, _, _, _, rfl, f3, by omega, f25.to_RIT, f25_1.to_RKT, f25_2.to_RKT, hw1⟩
end Go.Proofs.Ytahkeoegbjopfaa
/-
  Plain mathematics: numbers are ordered as their bytes are.
-/
namespace Go.Proofs.Ytahkeoegbjopfaa

theorem less_cons (a b : UInt8) (x y : List UInt8) : Op.bytesLess (a :: x) (b :: y) = (decide (a.toNat < b.toNat) || (decide (a.toNat = b.toNat) && Op.bytesLess x y)) := by
  have h1 : decide (a < b) = decide (a.toNat < b.toNat) := by rw [decide_eq_decide, UInt8.lt_iff_toNat_lt]
  have h2 : (a == b) = decide (a.toNat = b.toNat) := by rw [Bool.eq_iff_iff]; simp [UInt8.toNat_inj]
  simp only [Op.bytesLess]
  rw [h1, h2]

theorem be_less : ∀ (j n m : Nat), Op.bytesLess (beB j n) (beB j m) = decide (n % 256 ^ j < m % 256 ^ j)
  | 0, n, m => by simp [beB, Op.bytesLess, Nat.mod_one]
  | j + 1, n, m => by
    rw [beB, beB, less_cons, be_less j n m, UInt8.toNat_ofNat', UInt8.toNat_ofNat']
    have hp : 0 < 256 ^ j := Nat.pos_of_ne_zero (by simp)
    rw [show (2 : Nat) ^ 8 = 256 from rfl, Nat.pow_succ, Nat.mod_mul, Nat.mod_mul]
    have h1 := Nat.mod_lt n hp
    have h2 := Nat.mod_lt m hp
    generalize n / 256 ^ j % 256 = a at *
    generalize m / 256 ^ j % 256 = b at *
    generalize n % 256 ^ j = x at *
    generalize m % 256 ^ j = y at *
    generalize 256 ^ j = q at *
    rw [Bool.eq_iff_iff]
    simp only [Bool.or_eq_true, decide_eq_true_eq, Bool.and_eq_true]
    rcases Nat.lt_trichotomy a b with h | h | h
    · have h3 : q * a + q ≤ q * b := by rw [← Nat.mul_succ]; exact Nat.mul_le_mul_left q h
      constructor
      · intro _; omega
      · intro _; exact .inl h
    · subst h
      constructor
      · rintro (h3 | ⟨_, h3⟩)
        · omega
        · omega
      · intro h3; exact .inr ⟨rfl, by omega⟩
    · have h3 : q * b + q ≤ q * a := by rw [← Nat.mul_succ]; exact Nat.mul_le_mul_left q h
      constructor
      · rintro (h4 | ⟨h4, _⟩) <;> omega
      · intro _; omega

theorem first_nat (n : Nat) (h : n < 18446744073709551616) : (first (room n) n).toNat = 256 - 2 ^ (9 - room n) + n / 256 ^ (room n - 1) := by
  have hk := room_pos n
  have hlt := room_lt n h
  have h5 : 2 ^ (8 - room n) ≤ 2 ^ (9 - room n) := Nat.pow_le_pow_right (by omega) (by omega)
  have h6 : 2 ^ (9 - room n) ≤ 256 := Nat.pow_le_pow_right (show 0 < 2 by omega) (show 9 - room n ≤ 8 by omega)
  unfold first
  rw [UInt8.toNat_ofNat', Nat.mod_eq_of_lt]
  rcases Nat.lt_or_ge (room n) 9 with h9 | h9
  · have : 2 ^ (9 - room n) = 2 ^ (8 - room n) * 2 := by rw [← Nat.pow_succ]; congr 1; omega
    have := Nat.two_pow_pos (8 - room n)
    omega
  · have e : room n = 9 := by omega
    rw [e] at hlt ⊢
    simp at hlt
    omega

def over (t n : Nat) : Nat := if n < t then 0 else 1
theorem over_mono (t : Nat) {n m : Nat} (h : n ≤ m) : over t n ≤ over t m := by unfold over; split <;> split <;> omega
theorem room_sum (n : Nat) : room n = 1 + over 128 n + over 16384 n + over 2097152 n + over 268435456 n + over 34359738368 n + over 4398046511104 n + over 562949953421312 n + over 72057594037927936 n := by
  unfold room
  split
  · simp only [over]; repeat rw [if_pos (by omega)]
  split
  · simp only [over]; rw [if_neg (by omega)]; repeat rw [if_pos (by omega)]
  split
  · simp only [over]; iterate 2 rw [if_neg (by omega)]
    repeat rw [if_pos (by omega)]
  split
  · simp only [over]; iterate 3 rw [if_neg (by omega)]
    repeat rw [if_pos (by omega)]
  split
  · simp only [over]; iterate 4 rw [if_neg (by omega)]
    repeat rw [if_pos (by omega)]
  split
  · simp only [over]; iterate 5 rw [if_neg (by omega)]
    repeat rw [if_pos (by omega)]
  split
  · simp only [over]; iterate 6 rw [if_neg (by omega)]
    repeat rw [if_pos (by omega)]
  split
  · simp only [over]; iterate 7 rw [if_neg (by omega)]
    repeat rw [if_pos (by omega)]
  · simp only [over]; iterate 8 rw [if_neg (by omega)]
theorem room_mono {n m : Nat} (h : n ≤ m) : room n ≤ room m := by
  rw [room_sum, room_sum]
  have := over_mono 128 h
  have := over_mono 16384 h
  have := over_mono 2097152 h
  have := over_mono 268435456 h
  have := over_mono 34359738368 h
  have := over_mono 4398046511104 h
  have := over_mono 562949953421312 h
  have := over_mono 72057594037927936 h
  omega

theorem first_lt {n m : Nat} (hn : n < 18446744073709551616) (hm : m < 18446744073709551616) (h : room n < room m) : (first (room n) n).toNat < (first (room m) m).toNat := by
  have hk := room_pos n
  have hk' := room_pos m
  rw [first_nat n hn, first_nat m hm]
  have hlt := room_lt n hn
  have e : 2 ^ (9 - room n) = 2 ^ (8 - room n) * 2 := by rw [← Nat.pow_succ]; congr 1; omega
  have h6 : 2 ^ (9 - room n) ≤ 256 := Nat.pow_le_pow_right (show 0 < 2 by omega) (show 9 - room n ≤ 8 by omega)
  have h7 : 2 ^ (9 - room m) ≤ 2 ^ (8 - room n) := Nat.pow_le_pow_right (by omega) (by omega)
  generalize n / 256 ^ (room n - 1) = a at *
  generalize m / 256 ^ (room m - 1) = b at *
  omega

theorem enc_less (n m : Nat) (hn : n < 18446744073709551616) (hm : m < 18446744073709551616) : Op.bytesLess (enc n) (enc m) = decide (n < m) := by
  unfold enc
  rw [less_cons]
  rcases Nat.lt_trichotomy (room n) (room m) with h | h | h
  · have h1 := first_lt hn hm h
    have h2 : n < m := by
      rcases Nat.lt_or_ge n m with h3 | h3
      · exact h3
      · have := room_mono h3; omega
    simp [h1, h2]
  · rw [first_nat n hn, first_nat m hm, ← h, be_less, Bool.eq_iff_iff]
    have hp : 0 < 256 ^ (room n - 1) := Nat.pos_of_ne_zero (by simp)
    have h1 := Nat.mod_lt n hp
    have h2 := Nat.mod_lt m hp
    have e1 := Nat.div_add_mod n (256 ^ (room n - 1))
    have e2 := Nat.div_add_mod m (256 ^ (room n - 1))
    generalize n / 256 ^ (room n - 1) = a at *
    generalize m / 256 ^ (room n - 1) = b at *
    generalize n % 256 ^ (room n - 1) = x at *
    generalize m % 256 ^ (room n - 1) = y at *
    generalize 256 ^ (room n - 1) = q at *
    simp only [Bool.or_eq_true, decide_eq_true_eq, Bool.and_eq_true]
    rcases Nat.lt_trichotomy a b with h | h | h
    · have h3 : q * a + q ≤ q * b := by rw [← Nat.mul_succ]; exact Nat.mul_le_mul_left q h
      constructor
      · intro _; omega
      · intro _; left; omega
    · subst h
      constructor
      · rintro (h3 | ⟨_, h3⟩) <;> omega
      · intro h3; exact .inr ⟨rfl, by omega⟩
    · have h3 : q * b + q ≤ q * a := by rw [← Nat.mul_succ]; exact Nat.mul_le_mul_left q h
      constructor
      · rintro (h4 | ⟨h4, _⟩) <;> omega
      · intro _; omega
  · have h1 := first_lt hm hn h
    have h2 : ¬ n < m := fun h3 => by have := room_mono (Nat.le_of_lt h3); omega
    have h3 : ¬ (first (room n) n).toNat < (first (room m) m).toNat := by omega
    have h4 : ¬ (first (room n) n).toNat = (first (room m) m).toNat := by omega
    simp [h2, h3, h4]

theorem less_irrefl : ∀ l : List UInt8, Op.bytesLess l l = false
  | [] => rfl
  | a :: l => by rw [less_cons, less_irrefl l]; simp
theorem enc_inj {n m : Nat} (hn : n < 18446744073709551616) (hm : m < 18446744073709551616) (h : enc n = enc m) : n = m := by
  have h1 := enc_less n m hn hm
  have h2 := enc_less m n hm hn
  rw [h, less_irrefl] at h1
  rw [h, less_irrefl] at h2
  have h3 := of_decide_eq_false h1.symm
  have h4 := of_decide_eq_false h2.symm
  omega

theorem room_hi (n : Nat) : room n = 9 ∨ n / 2 ^ (7 * room n) = 0 := by
  unfold room
  repeat' split
  all_goals first | (left; rfl) | (right; simp; omega)
theorem room_low (n : Nat) : room n = 1 ∨ n / 2 ^ (7 * (room n - 1)) ≠ 0 := by
  unfold room
  repeat' split
  all_goals first | (left; rfl) | (right; simp; omega)
end Go.Proofs.Ytahkeoegbjopfaa
/-
  Plain laws of chapter 1: what is written is read back, and nothing else is read so.
-/
namespace Go.Proofs.Ytahkeoegbjopfaa

theorem lead_first (n : Nat) (h : n < 18446744073709551616) : lead (first (room n) n) = room n ∧ (first (room n) n).toNat % 2 ^ (8 - room n) = n / 256 ^ (room n - 1) := by
  have hk := room_pos n
  have hlt := room_lt n h
  have hf := first_nat n h
  unfold lead
  generalize n / 256 ^ (room n - 1) = q at *
  generalize (first (room n) n).toNat = f at *
  generalize room n = k at *
  obtain e | e | e | e | e | e | e | e | e : k = 1 ∨ k = 2 ∨ k = 3 ∨ k = 4 ∨ k = 5 ∨ k = 6 ∨ k = 7 ∨ k = 8 ∨ k = 9 := by omega
  all_goals subst e; simp only [Nat.reduceSub, Nat.reducePow] at *; refine ⟨?_, by omega⟩; (repeat' split) <;> omega

theorem ofNat_byte (q : Nat) : (UInt8.ofNat q).toNat = q % 256 := by rw [UInt8.toNat_ofNat']
theorem mod_pow_succ (n j : Nat) : n % 256 ^ (j + 1) = n % 256 ^ j + 256 ^ j * (n / 256 ^ j % 256) := by rw [Nat.pow_succ, Nat.mod_mul]
theorem beVal_beB : ∀ (j a n : Nat), beVal a (beB j n) = a * 256 ^ j + n % 256 ^ j
  | 0, a, n => by simp [beVal, beB, Nat.mod_one]
  | j + 1, a, n => by
    have e : beVal a (beB (j + 1) n) = beVal (a * 256 + (UInt8.ofNat (n / 256 ^ j)).toNat) (beB j n) := rfl
    rw [e, beVal_beB j, ofNat_byte, mod_pow_succ, Nat.pow_succ, Nat.add_mul, Nat.mul_assoc a 256, Nat.mul_comm 256 (256 ^ j), Nat.mul_comm (n / 256 ^ j % 256), Nat.add_assoc, Nat.add_comm (256 ^ j * (n / 256 ^ j % 256))]

theorem rNumber_enc (n : Nat) (h : n < 18446744073709551616) (t : List UInt8) : rNumber (enc n ++ t, 0) = (n, (t, 0)) := by
  have hk := room_pos n
  obtain ⟨h1, h2⟩ := lead_first n h
  have hv : beVal ((first (room n) n).toNat % 2 ^ (8 - lead (first (room n) n))) ((beB (room n - 1) n ++ t).take (lead (first (room n) n) - 1)) = n := by
    rw [h1, h2, List.take_append_of_le_length (by rw [beB_length]; exact Nat.le_refl _), List.take_of_length_le (by rw [beB_length]; exact Nat.le_refl _), beVal_beB]
    exact Nat.div_add_mod' n _
  show rNumber (first (room n) n :: (beB (room n - 1) n ++ t), 0) = _
  rw [rNumber_ok (by rw [h1, List.length_append, beB_length]; omega) (by rw [hv, h1]), hv, h1]
  rw [List.drop_append_of_le_length (by rw [beB_length]; exact Nat.le_refl _), List.drop_of_length_le (by rw [beB_length]; exact Nat.le_refl _)]
  rfl

theorem rBlock_enc (p t : List UInt8) (h : p.length < 18446744073709551616) : rBlock (enc p.length ++ p ++ t, 0) = (p, (t, 0)) := by
  unfold rBlock
  rw [List.append_assoc, rNumber_enc _ h]
  simp

theorem leVal_leB : ∀ (k m : Nat), leVal (leB k m) = m % 256 ^ k
  | 0, m => by simp [leB, leVal, Nat.mod_one]
  | k + 1, m => by
    have e : leB (k + 1) m = leB k m ++ [UInt8.ofNat (m / 256 ^ k)] := rfl
    rw [e, leVal_snoc, leVal_leB k, leB_length, ofNat_byte, mod_pow_succ, Nat.mul_comm]

theorem rWord_le (size : Int) (m : Nat) (t : List UInt8) : rWord size (leB (clampN size) m ++ t, 0) = (m % 256 ^ clampN size, (t, 0)) := by
  unfold rWord rTake
  have hl : (leB (clampN size) m).length = clampN size := leB_length _ _
  rw [if_neg (by simp), if_neg (by simp [hl])]
  simp only [List.take_append_of_le_length (Nat.le_of_eq hl.symm), List.drop_append_of_le_length (Nat.le_of_eq hl.symm)]
  rw [List.take_of_length_le (Nat.le_of_eq hl), List.drop_of_length_le (Nat.le_of_eq hl), leVal_leB]
  rfl

theorem rDigest_all (d : List UInt8) (h : d.length = 32) : rDigest (d, 0) = (d, ([], 0)) := by
  unfold rDigest rTake
  have e : d.take 32 = d := List.take_of_length_le (Nat.le_of_eq h)
  simp [h, e]

theorem beVal_split : ∀ (l : List UInt8) (a : Nat), beVal a l / 256 ^ l.length = a
  | [], a => by simp [beVal]
  | c :: l, a => by
    have e : beVal a (c :: l) = beVal (a * 256 + c.toNat) l := rfl
    have h := beVal_split l (a * 256 + c.toNat)
    have hc := c.toNat_lt
    rw [e, List.length_cons, Nat.pow_succ, ← Nat.div_div_eq_div_mul, h]
    omega
theorem beB_beVal : ∀ (l : List UInt8) (a : Nat), beB l.length (beVal a l) = l
  | [], _ => rfl
  | c :: l, a => by
    have e : beVal a (c :: l) = beVal (a * 256 + c.toNat) l := rfl
    have hc := c.toNat_lt
    rw [e, List.length_cons, beB, beVal_split, beB_beVal l]
    congr 1
    apply UInt8.toNat_inj.1
    rw [UInt8.toNat_ofNat']
    omega
theorem lead_back (c : UInt8) : 256 - 2 ^ (9 - lead c) + c.toNat % 2 ^ (8 - lead c) = c.toNat := by
  have hc := c.toNat_lt
  unfold lead
  generalize c.toNat = x at *
  repeat' split
  all_goals simp only [Nat.reduceSub, Nat.reducePow]; omega

/-- What is read as a number is written so. -/
theorem rNumber_back {b r : List UInt8} {u : Nat} (h : rNumber (b, 0) = (u, (r, 0))) : b = enc u ++ r ∧ u < 18446744073709551616 := by
  cases b with
  | nil => rw [rNumber_nil] at h; simp at h
  | cons c t =>
    by_cases h1 : t.length + 1 < lead c
    · rw [rNumber_more h1] at h; simp at h
    · by_cases h2 : room (beVal (c.toNat % 2 ^ (8 - lead c)) (t.take (lead c - 1))) = lead c
      · rw [rNumber_ok h1 h2] at h
        simp only [Prod.mk.injEq, and_true] at h
        obtain ⟨hu, hr⟩ := h
        have hk := lead_bd c
        have hlen : (t.take (lead c - 1)).length = lead c - 1 := by rw [List.length_take]; omega
        have hu64 := beVal_u64 c (t.take (lead c - 1)) (by omega)
        rw [hu] at h2 hu64
        refine ⟨?_, hu64⟩
        have hdiv : u / 256 ^ (lead c - 1) = c.toNat % 2 ^ (8 - lead c) := by
          have := beVal_split (t.take (lead c - 1)) (c.toNat % 2 ^ (8 - lead c))
          rw [hlen, hu] at this
          exact this
        have hrest : beB (lead c - 1) u = t.take (lead c - 1) := by
          have := beB_beVal (t.take (lead c - 1)) (c.toNat % 2 ^ (8 - lead c))
          rw [hlen, hu] at this
          exact this
        have hf : first (lead c) u = c := by
          apply UInt8.toNat_inj.1
          unfold first
          rw [UInt8.toNat_ofNat', hdiv, lead_back]
          have := c.toNat_lt
          omega
        unfold enc
        rw [h2, hf, hrest, ← hr, List.cons_append, List.take_append_drop]
      · rw [rNumber_bad h1 h2] at h; simp at h

theorem rBlock_back {b q r : List UInt8} (h : rBlock (b, 0) = (q, (r, 0))) : b = enc q.length ++ q ++ r := by
  unfold rBlock at h
  generalize hn : rNumber (b, 0) = x at h
  obtain ⟨n, s, e⟩ := x
  simp only at h
  by_cases he : e = 0
  · subst he
    rw [if_neg (by simp)] at h
    obtain ⟨hb, _⟩ := rNumber_back hn
    by_cases hl : s.length < n
    · rw [if_pos hl] at h; simp at h
    · rw [if_neg hl] at h
      simp only [Prod.mk.injEq, and_true] at h
      obtain ⟨hq, hr⟩ := h
      have hqn : q.length = n := by rw [← hq, List.length_take]; omega
      rw [hb, hqn, ← hq, ← hr, List.append_assoc, List.take_append_drop]
  · rw [if_pos he] at h
    simp only [Prod.mk.injEq] at h
    exact absurd h.2.2 he
end Go.Proofs.Ytahkeoegbjopfaa
/-
  Plain laws of ops: what is written is read back, and nothing else is read so; what an op does to a valid state.
-/
namespace Go.Proofs.Ytahkeoegbjopfaa
theorem rWord_cons (c : UInt8) (t : List UInt8) : rWord 1 (c :: t, 0) = (c.toNat, (t, 0)) := by
  unfold rWord rTake
  have hc : clampN 1 = 1 := by decide
  rw [hc]
  simp [leVal]
theorem rWord_nil : rWord 1 ([], 0) = (0, ([], 5)) := by decide
theorem rDigest_enc (u : Ky) (t : List UInt8) : rDigest (u.1 ++ t, 0) = (u.1, (t, 0)) := by
  have h := u.2
  have h2 : ¬ (u.1 ++ t).length < 32 := by rw [List.length_append]; omega
  have e1 : rTake 32 (u.1 ++ t, 0) = (u.1, (t, 0)) := by
    unfold rTake
    rw [if_neg (by simp), if_neg h2, List.take_left' h, List.drop_left' h]
  unfold rDigest
  rw [e1]
  simp
theorem blk_enc (p t : List UInt8) (h : p.length < 18446744073709551616) : rBlock (blkB p ++ t, 0) = (p, (t, 0)) := rBlock_enc p t h
theorem rBlock_err {l : List UInt8} {e : Nat} (h : e ≠ 0) : (rBlock (l, e)).2.2 ≠ 0 := by
  unfold rBlock
  rw [rNumber_err h]
  simp [h]
theorem goodS_1 {n m : Nat} {u : Ky} (h : goodS 1 n m u = true) : 1 ≤ n ∧ n ≤ 16 ∧ m ≤ 32 ∧ u = z32 := by
  simp only [goodS, if_pos, Bool.and_eq_true, decide_eq_true_eq] at h
  exact ⟨h.1.1.1, h.1.1.2, h.1.2, h.2⟩
theorem goodS_2 {n m : Nat} {u : Ky} (h : goodS 2 n m u = true) : 1 ≤ n ∧ n ≤ 16 ∧ m = 0 ∧ u = z32 := by
  have e : goodS 2 n m u = (decide (1 ≤ n ∧ n ≤ 16) && decide (m = 0) && decide (u = z32)) := rfl
  rw [e] at h
  simp only [Bool.and_eq_true, decide_eq_true_eq] at h
  exact ⟨h.1.1.1, h.1.1.2, h.1.2, h.2⟩
theorem goodS_who {k : Int} {n m : Nat} {u : Ky} (h1 : k ≠ 1) (h2 : k ≠ 2) (h : goodS k n m u = true) : n = 0 ∧ m = 0 := by
  simp only [goodS, if_neg h1, if_neg h2, Bool.and_eq_true, decide_eq_true_eq] at h
  exact h
theorem readS_tail {k : Int} {p q : By} {u : Ky} {t : List UInt8} (hg : goodS k p.length q.length u = true) : readS k (tailS k p q u ++ t, 0) = (p, q, u, (t, 0)) := by
  by_cases h1 : k = 1
  · subst h1
    obtain ⟨g1, g2, g3, rfl⟩ := goodS_1 hg
    have e : tailS 1 p q z32 = blkB p ++ blkB q := rfl
    have e1 := blk_enc p (blkB q ++ t) (by omega)
    have e2 := blk_enc q t (by omega)
    simp only [readS, if_pos, e, List.append_assoc, e1, e2]
  · by_cases h2 : k = 2
    · subst h2
      obtain ⟨g1, g2, g3, rfl⟩ := goodS_2 hg
      obtain rfl : q = [] := List.eq_nil_of_length_eq_zero g3
      have e : tailS 2 p [] z32 = blkB p := rfl
      have e1 := blk_enc p t (by omega)
      simp [readS, e, e1]
    · obtain ⟨g1, g2⟩ := goodS_who h1 h2 hg
      obtain rfl : p = [] := List.eq_nil_of_length_eq_zero g1
      obtain rfl : q = [] := List.eq_nil_of_length_eq_zero g2
      have e1 := rDigest_enc u t
      have e : tailS k [] [] u = u.1 := by simp [tailS, h1, h2]
      have e2 : digK (u.1 ++ t, 0) = u := Subtype.ext (by show (rDigest (u.1 ++ t, 0)).1 = u.1; rw [e1])
      simp only [readS, if_neg h1, if_neg h2, e, e1, e2]
theorem readS_back {k : Int} {p q : By} {u : Ky} {l t : List UInt8} (h : readS k (l, 0) = (p, q, u, (t, 0))) : l = tailS k p q u ++ t := by
  by_cases h1 : k = 1
  · subst h1
    simp only [readS, if_pos, Prod.mk.injEq] at h
    obtain ⟨e1, e2, e3, e4⟩ := h
    obtain ⟨⟨p', l1, e⟩, hb⟩ : ∃ s, rBlock (l, 0) = s := ⟨_, rfl⟩
    rw [hb] at e1 e2 e4
    dsimp only at e1 e2 e4
    by_cases he : e = 0
    · subst he
      subst e1
      have k1 := rBlock_back hb
      obtain ⟨⟨q', l2, e'⟩, hb2⟩ : ∃ s, rBlock (l1, 0) = s := ⟨_, rfl⟩
      rw [hb2] at e2 e4
      dsimp only at e2 e4
      subst e2
      injection e4 with e4 e5
      subst e4; subst e5
      have k2 := rBlock_back hb2
      show l = blkB p' ++ blkB q' ++ l2
      unfold blkB
      rw [k1, k2]; simp
    · have := rBlock_err (l := l1) he
      rw [e4] at this
      exact absurd rfl this
  · by_cases h2 : k = 2
    · subst h2
      have e0 : readS 2 (l, 0) = ((rBlock (l, 0)).1, [], z32, (rBlock (l, 0)).2) := rfl
      rw [e0] at h
      simp only [Prod.mk.injEq] at h
      obtain ⟨e1, rfl, rfl, e4⟩ := h
      have hb : rBlock (l, 0) = (p, (t, 0)) := by rw [← e1, ← e4]
      exact rBlock_back hb
    · simp only [readS, if_neg h1, if_neg h2, Prod.mk.injEq] at h
      obtain ⟨rfl, rfl, rfl, e4⟩ := h
      have e : tailS k [] [] (digK (l, 0)) = (rDigest (l, 0)).1 := by simp [tailS, h1, h2]; rfl
      rw [e]
      unfold rDigest rTake at e4 ⊢
      by_cases h3 : l.length < 32
      · simp [h3] at e4
      · simp only [ne_eq, not_true_eq_false, if_false, h3] at e4 ⊢
        injection e4 with e4
        rw [← e4, List.take_append_drop]
theorem readL_enc : ∀ (L : List Opn) (t : List UInt8), (∀ o ∈ L, okO o = true) → readL L.length (L.flatMap opB ++ t, 0) = some (L, (t, 0))
  | [], t, _ => rfl
  | (k, p, q, u) :: L, t, h => by
    have h0 := h (k, p, q, u) (by simp)
    obtain ⟨k1, k2, k3⟩ := okOp_of (show okOp k p.length q.length u = true from h0)
    have hkn : (UInt8.ofNat k.toNat).toNat = k.toNat := UInt8.toNat_ofNat_of_lt' (by show k.toNat < 256; omega)
    have ih := readL_enc L t (fun o ho => h o (by simp [ho]))
    have e : ((k, p, q, u) :: L).flatMap opB ++ t = UInt8.ofNat k.toNat :: (tailS k p q u ++ (L.flatMap opB ++ t)) := by
      simp [opB]
    have hkk : ((k.toNat : Nat) : Int) = k := Int.toNat_of_nonneg (by omega)
    rw [e, List.length_cons, readL, rWord_cons]
    dsimp only
    rw [hkn, if_pos (by omega), hkk, readS_tail k3]
    dsimp only
    rw [if_pos ⟨rfl, k3⟩, ih]
    rfl
theorem readL_back : ∀ (n : Nat) (l : List UInt8) (L : List Opn) (t : List UInt8), readL n (l, 0) = some (L, (t, 0)) → L.length = n ∧ (∀ o ∈ L, okO o = true) ∧ l = L.flatMap opB ++ t
  | 0, l, L, t, h => by
    rw [readL] at h
    injection h with h
    injection h with h1 h2
    injection h2 with h2
    subst h1; subst h2
    exact ⟨rfl, fun o ho => (by cases ho), rfl⟩
  | n + 1, l, L, t, h => by
    rw [readL] at h
    rcases l with _ | ⟨c, l⟩
    · rw [rWord_nil] at h
      simp at h
    · rw [rWord_cons] at h
      dsimp only at h
      by_cases hk : 1 ≤ c.toNat ∧ c.toNat ≤ 6
      · rw [if_pos hk] at h
        obtain ⟨⟨p, q, u, l2, e2⟩, hs⟩ : ∃ s, readS (c.toNat : Nat) (l, 0) = s := ⟨_, rfl⟩
        rw [hs] at h
        dsimp only at h
        by_cases hg : e2 = 0 ∧ goodS (c.toNat : Nat) p.length q.length u = true
        · rw [if_pos hg] at h
          obtain ⟨rfl, hg⟩ := hg
          obtain ⟨⟨L2, s2⟩, hL2⟩ : ∃ r, readL n (l2, 0) = some r := by
            cases hr : readL n (l2, 0) with
            | none => rw [hr] at h; cases h
            | some r => exact ⟨r, rfl⟩
          rw [hL2] at h
          injection h with h
          injection h with h1 h2
          subst h1; subst h2
          obtain ⟨i1, i2, i3⟩ := readL_back n l2 L2 t hL2
          have hb := readS_back hs
          refine ⟨by rw [List.length_cons, i1], fun o ho => ?_, ?_⟩
          · rcases List.mem_cons.1 ho with rfl | ho
            · show okOp (c.toNat : Nat) p.length q.length u = true
              unfold okOp
              rw [hg, decide_eq_true (by omega), decide_eq_true (by omega)]
              rfl
            · exact i2 o ho
          · rw [List.flatMap_cons, opB]
            dsimp only
            rw [Int.toNat_natCast, UInt8.ofNat_toNat, hb, i3]
            simp
        · rw [if_neg hg] at h; cases h
      · rw [if_neg hk] at h; cases h
theorem rEnd_zero {s : RS} (h : rEnd s = 0) : s = ([], 0) := by
  obtain ⟨l, e⟩ := s
  unfold rEnd at h
  by_cases h1 : e = 0
  · subst h1
    by_cases h2 : l = []
    · subst h2; rfl
    · simp [h2] at h
  · simp [h1] at h
theorem readO_back {b : By} {L : List Opn} (h : readO b = (L, 0)) : bytesO L = (b, 0) := by
  unfold readO at h
  by_cases h8 : 8 < (rWord 1 (b, 0)).1
  · rw [if_pos h8] at h; cases h
  rw [if_neg h8] at h
  rcases b with _ | ⟨c, b⟩
  · rw [rWord_nil] at h
    simp [readL, rEnd] at h
  · rw [rWord_cons] at h h8
    dsimp only at h h8
    cases hr : readL c.toNat (b, 0) with
    | none => rw [hr] at h; cases h
    | some r =>
      obtain ⟨L2, s⟩ := r
      rw [hr] at h
      dsimp only at h
      by_cases hE : rEnd s = 0
      · rw [if_pos hE] at h
        injection h with h
        subst h
        rw [rEnd_zero hE] at hr
        obtain ⟨i1, i2, i3⟩ := readL_back _ _ _ _ hr
        unfold bytesO
        rw [if_neg (by omega), if_pos (List.all_eq_true.2 i2), i1, i3]
        simp
      · rw [if_neg hE] at h; cases h
theorem bytesO_ok {L : List Opn} {x : By} (h : bytesO L = (x, 0)) : L.length ≤ 8 ∧ (∀ o ∈ L, okO o = true) ∧ x = UInt8.ofNat L.length :: L.flatMap opB := by
  unfold bytesO at h
  by_cases h8 : 8 < L.length
  · rw [if_pos h8] at h; cases h
  rw [if_neg h8] at h
  by_cases hk : L.all okO = true
  · rw [if_pos hk] at h
    injection h with h
    exact ⟨by omega, List.all_eq_true.1 hk, h.symm⟩
  · rw [if_neg hk] at h; cases h
theorem readO_bytes {L : List Opn} {x : By} (h : bytesO L = (x, 0)) : readO x = (L, 0) := by
  obtain ⟨h1, h2, rfl⟩ := bytesO_ok h
  have hn : (UInt8.ofNat L.length).toNat = L.length := UInt8.toNat_ofNat_of_lt' (by show L.length < 256; omega)
  have e := readL_enc L [] h2
  rw [List.append_nil] at e
  unfold readO
  rw [rWord_cons]
  dsimp only
  rw [hn, if_neg (by omega), e]
  rfl
theorem readO_more {L : List Opn} {x : By} (h : bytesO L = (x, 0)) : readO (x ++ [0]) = ([], 4) := by
  obtain ⟨h1, h2, rfl⟩ := bytesO_ok h
  have hn : (UInt8.ofNat L.length).toNat = L.length := UInt8.toNat_ofNat_of_lt' (by show L.length < 256; omega)
  have e := readL_enc L [0] h2
  unfold readO
  rw [List.cons_append, rWord_cons]
  dsimp only
  rw [hn, if_neg (by omega), e]
  rfl
theorem bytesO_err (L : List Opn) : (bytesO L).2 = 0 ∨ (bytesO L).2 = 2 ∧ (bytesO L).1 = [] := by
  unfold bytesO
  (repeat' split) <;> simp
end Go.Proofs.Ytahkeoegbjopfaa
/-
  Plain laws of ops: valid states stay valid; what Get answers after an op.
-/
namespace Go.Proofs.Ytahkeoegbjopfaa
abbrev cmpR (a b : By) : Prop := cmpL a b < 0
theorem srt_pw {L : List By} : Srt L ↔ L.Pairwise cmpR := by
  constructor
  · intro h
    rw [List.pairwise_iff_getElem]
    exact fun i j hi hj hij => cmpL_chain h j i hj hij
  · intro h i hi h0
    rw [List.pairwise_iff_getElem] at h
    exact h (i - 1) i (by omega) hi (by omega)
theorem low_spec {L : List By} (hs : Srt L) (p : By) : (∀ j (h : j < L.length), j < low L p → cmpL L[j] p < 0) ∧ (∀ j (h : j < L.length), low L p ≤ j → 0 ≤ cmpL L[j] p) := by
  have h1 : ∀ j (h : j < L.length), j < L.findIdx (fun x => decide (0 ≤ cmpL x p)) → cmpL L[j] p < 0 := fun j hj hjk => by
    have := List.not_of_lt_findIdx hjk
    simp only [Bool.not_eq_true, decide_eq_false_iff_not] at this
    omega
  have h2 : ∀ j (h : j < L.length), L.findIdx (fun x => decide (0 ≤ cmpL x p)) ≤ j → 0 ≤ cmpL L[j] p := fun j hj hjk => by
    have hk : L.findIdx (fun x => decide (0 ≤ cmpL x p)) < L.length := by omega
    have := List.findIdx_getElem (w := hk)
    simp only [decide_eq_true_eq] at this
    exact above_all hs hk this j hj hjk
  have e := low_eq (List.findIdx_le_length) h1 h2
  rw [e]
  exact ⟨h1, h2⟩
def insL (L : List By) (p : By) : List By := L.take (low L p) ++ [p] ++ L.drop (low L p)
theorem mem_insL {L : List By} {p x : By} : x ∈ insL L p ↔ x = p ∨ x ∈ L := by
  unfold insL
  rw [List.mem_append, List.mem_append, List.mem_singleton]
  have e : x ∈ L ↔ x ∈ L.take (low L p) ∨ x ∈ L.drop (low L p) := by
    conv => lhs; rw [← List.take_append_drop (low L p) L]
    exact List.mem_append
  rw [e]
  constructor
  · rintro ((h | h) | h)
    · exact .inr (.inl h)
    · exact .inl h
    · exact .inr (.inr h)
  · rintro (h | h | h)
    · exact .inl (.inr h)
    · exact .inl (.inl h)
    · exact .inr h
theorem srt_insL {L : List By} {p : By} (hs : Srt L) (hp : p ∉ L) : Srt (insL L p) := by
  obtain ⟨h1, h2⟩ := low_spec hs p
  have hpw := srt_pw.1 hs
  have ht : ∀ a ∈ L.take (low L p), cmpL a p < 0 := fun a ha => by
    obtain ⟨j, hj, rfl⟩ := List.getElem_of_mem ha
    rw [List.length_take] at hj
    rw [List.getElem_take]
    exact h1 j (by omega) (by omega)
  have hd : ∀ b ∈ L.drop (low L p), cmpL p b < 0 := fun b hb => by
    have hbL : b ∈ L := List.mem_of_mem_drop hb
    obtain ⟨j, hj, rfl⟩ := List.getElem_of_mem hb
    rw [List.length_drop] at hj
    rw [List.getElem_drop] at hbL ⊢
    have h3 := h2 (low L p + j) (by omega) (by omega)
    have h4 := cmpL_neg L[low L p + j] p
    have h5 : cmpL L[low L p + j] p ≠ 0 := fun e => hp ((cmpL_zero _ _).1 e ▸ hbL)
    omega
  rw [srt_pw, insL, List.append_assoc, List.pairwise_append]
  refine ⟨hpw.sublist (List.take_sublist _ _), ?_, ?_⟩
  · rw [List.singleton_append, List.pairwise_cons]
    exact ⟨hd, hpw.sublist (List.drop_sublist _ _)⟩
  · intro a ha b hb
    rw [List.singleton_append, List.mem_cons] at hb
    rcases hb with rfl | hb
    · exact ht a ha
    · exact cmpL_trans _ _ _ (ht a ha) (hd b hb)
theorem cut_sub {α : Type} (L : List α) (k : Nat) : (cutI L k).Sublist L := by
  unfold cutI
  conv => rhs; rw [← List.take_append_drop k L]
  exact List.Sublist.append (List.Sublist.refl _) (by rw [← List.drop_drop]; exact List.drop_sublist _ _)
theorem srt_cut {L : List By} {k : Nat} (hs : Srt L) : Srt (cutI L k) := srt_pw.2 ((srt_pw.1 hs).sublist (cut_sub L k))
theorem mem_cut {L : List By} {p x : By} {k : Nat} (hs : Srt L) (hk : k < L.length) (hp : L[k] = p) : x ∈ cutI L k ↔ x ∈ L ∧ x ≠ p := by
  have hne : ∀ j (hj : j < L.length), j ≠ k → L[j] ≠ p := fun j hj hjk e => by
    have h0 := cmpL_self p
    rcases Nat.lt_or_gt_of_ne hjk with h | h
    · have := cmpL_chain hs k j hk h; rw [e, hp] at this; omega
    · have := cmpL_chain hs j k hj h; rw [e, hp] at this; omega
  constructor
  · intro h
    refine ⟨(cut_sub L k).subset h, ?_⟩
    unfold cutI at h
    rcases List.mem_append.1 h with h | h
    · obtain ⟨j, hj, rfl⟩ := List.getElem_of_mem h
      rw [List.length_take] at hj
      rw [List.getElem_take]
      exact hne j (by omega) (by omega)
    · obtain ⟨j, hj, rfl⟩ := List.getElem_of_mem h
      rw [List.length_drop] at hj
      rw [List.getElem_drop]
      exact hne _ (by omega) (by omega)
  · rintro ⟨h, hx⟩
    obtain ⟨j, hj, rfl⟩ := List.getElem_of_mem h
    have hjk : j ≠ k := fun e => hx (by subst e; exact hp)
    unfold cutI
    rw [List.mem_append]
    rcases Nat.lt_or_gt_of_ne hjk with h1 | h1
    · exact .inl (List.mem_take_iff_getElem.2 ⟨j, by omega, rfl⟩)
    · exact .inr (List.mem_drop_iff_getElem.2 ⟨j - (k + 1), by omega, by congr 1; omega⟩)
theorem map_cut {α β : Type} (f : α → β) (L : List α) (k : Nat) : (cutI L k).map f = cutI (L.map f) k := by
  unfold cutI
  rw [List.map_append, List.map_take, List.map_drop]
theorem cut_len {α : Type} {L : List α} {k : Nat} (hk : k < L.length) : (cutI L k).length + 1 = L.length := by
  unfold cutI
  rw [List.length_append, List.length_take, List.length_drop]; omega
theorem low_at {L : List By} {p : By} (hs : Srt L) (h : p ∈ L) : ∃ hk : low L p < L.length, L[low L p] = p := by
  obtain ⟨h1, h2⟩ := low_spec hs p
  obtain ⟨hk, e⟩ := (has_eq hs h1 h2).1 h
  exact ⟨hk, (cmpL_zero _ _).1 e⟩
theorem okI_iff {I : List (By × By)} : OkI I ↔ (∀ x ∈ I, (1 ≤ x.1.length ∧ x.1.length ≤ 16) ∧ x.2.length ≤ 32) ∧ Srt (I.map Prod.fst) := by
  constructor
  · intro h
    refine ⟨fun x hx => ?_, h.srt⟩
    obtain ⟨i, hi, rfl⟩ := List.getElem_of_mem hx
    exact (h i hi).1
  · rintro ⟨h1, h2⟩ i hi
    refine ⟨h1 _ (List.getElem_mem hi), fun h0 => ?_⟩
    have := h2 i (by rw [List.length_map]; exact hi) h0
    rwa [List.getElem_map, List.getElem_map] at this
theorem incK_iff {L : List Ky} : IncK L ↔ Srt (L.map Subtype.val) := by
  constructor
  · exact IncK.srt
  · intro h i hi h0
    have := h i (by rw [List.length_map]; exact hi) h0
    rwa [List.getElem_map, List.getElem_map] at this
/-! The lists after an op. -/
theorem map_insK (L : List Ky) (u : Ky) : (L.take (low (L.map Subtype.val) u.1) ++ [u] ++ L.drop (low (L.map Subtype.val) u.1)).map Subtype.val = insL (L.map Subtype.val) u.1 := by
  simp [insL, List.map_take, List.map_drop]
theorem map_insI (I : List (By × By)) (p q : By) : (I.take (low (I.map Prod.fst) p) ++ [(p, q)] ++ I.drop (low (I.map Prod.fst) p)).map Prod.fst = insL (I.map Prod.fst) p := by
  simp [insL, List.map_take, List.map_drop]
theorem ins_len {α : Type} (L : List α) (x : α) (k : Nat) (hk : k ≤ L.length) : (L.take k ++ [x] ++ L.drop k).length = L.length + 1 := by
  simp only [List.length_append, List.length_take, List.length_drop, List.length_singleton]; omega
theorem addS_spec {L : List Ky} {u : Ky} {m : Nat} (h : IncK L) : IncK (addS L u m).1 ∧ ((addS L u m).2 = false → (addS L u m).1 = L) ∧ ((addS L u m).2 = true → u ∉ L ∧ L.length < m ∧ (addS L u m).1.length = L.length + 1 ∧ ∀ x, x ∈ (addS L u m).1 ↔ x = u ∨ x ∈ L) := by
  unfold addS
  by_cases hc : u ∈ L ∨ m ≤ L.length
  · rw [if_pos hc]
    exact ⟨h, fun _ => rfl, fun e => by cases e⟩
  · rw [if_neg hc]
    have hu : u ∉ L := fun e => hc (.inl e)
    have hlow : low (L.map Subtype.val) u.1 ≤ L.length := by have := low_le (L.map Subtype.val) u.1; rwa [List.length_map] at this
    refine ⟨?_, fun e => (by cases e), fun _ => ⟨hu, by omega, ins_len L u _ hlow, fun x => ?_⟩⟩
    · rw [incK_iff, map_insK]
      exact srt_insL h.srt (fun e => hu ((mem_val u L).1 e))
    · rw [← mem_val, map_insK, mem_insL, mem_val]
      exact or_congr_left Subtype.ext_iff.symm
theorem dropS_spec {L : List Ky} {u : Ky} {m : Nat} (h : IncK L) : IncK (dropS L u m).1 ∧ ((dropS L u m).2 = false → (dropS L u m).1 = L) ∧ ((dropS L u m).2 = true → u ∈ L ∧ m < L.length ∧ (dropS L u m).1.length + 1 = L.length ∧ ∀ x, x ∈ (dropS L u m).1 ↔ x ∈ L ∧ x ≠ u) := by
  unfold dropS
  by_cases hc : u ∉ L ∨ L.length ≤ m
  · rw [if_pos hc]
    exact ⟨h, fun _ => rfl, fun e => by cases e⟩
  · rw [if_neg hc]
    have hu : u ∈ L := Decidable.not_not.1 (fun e => hc (.inl e))
    have hs := h.srt
    obtain ⟨hk, e1⟩ := low_at hs ((mem_val u L).2 hu)
    have hk2 : low (L.map Subtype.val) u.1 < L.length := by rwa [List.length_map] at hk
    refine ⟨?_, fun e => (by cases e), fun _ => ⟨hu, by omega, cut_len hk2, fun x => ?_⟩⟩
    · rw [incK_iff, map_cut]
      exact srt_cut hs
    · rw [← mem_val, map_cut, mem_cut hs hk e1, mem_val]
      exact and_congr_right fun _ => not_congr Subtype.ext_iff.symm
theorem set_same {α : Type} {L : List α} {k : Nat} {p : α} (hk : k < L.length) (e : L[k] = p) : L.set k p = L := by
  subst e
  exact List.set_getElem_self hk
theorem putS_spec {I : List (By × By)} {p q : By} (h : OkI I) (hp : 1 ≤ p.length ∧ p.length ≤ 16) (hq : q.length ≤ 32) : OkI (putS I p q).1 ∧ ((putS I p q).2 = false → (putS I p q).1 = I) ∧ (I.length ≤ 1024 → (putS I p q).1.length ≤ 1024) ∧ ((putS I p q).2 = true → (p, q) ∈ (putS I p q).1 ∧ ∀ x v, x ≠ p → ((x, v) ∈ (putS I p q).1 ↔ (x, v) ∈ I)) := by
  obtain ⟨h1, hs⟩ := okI_iff.1 h
  unfold putS
  by_cases hc : p ∈ I.map Prod.fst
  · rw [if_pos hc]
    obtain ⟨hk, e1⟩ := mem_low hs hc
    have hmem : ∀ y, y ∈ I.set (low (I.map Prod.fst) p) (p, q) → y = (p, q) ∨ y ∈ I := fun y hy => (List.mem_or_eq_of_mem_set hy).symm
    refine ⟨okI_iff.2 ⟨fun x hx => ?_, ?_⟩, fun e => (by cases e), fun hl => by rw [List.length_set]; exact hl, fun _ => ⟨List.mem_set hk _, fun x v hx => ⟨fun hm => ?_, fun hm => ?_⟩⟩⟩
    · rcases hmem x hx with rfl | hx
      · exact ⟨hp, hq⟩
      · exact h1 x hx
    · rw [List.map_set]
      have e2 : (I.map Prod.fst)[low (I.map Prod.fst) p]'(by rw [List.length_map]; exact hk) = p := by rw [List.getElem_map]; exact e1
      have e3 := set_same (by rw [List.length_map]; exact hk) e2
      show Srt ((I.map Prod.fst).set (low (I.map Prod.fst) p) p)
      rw [e3]; exact hs
    · rcases hmem _ hm with e | hm
      · injection e with e; exact absurd e hx
      · exact hm
    · obtain ⟨j, hj, e⟩ := List.getElem_of_mem hm
      have hjk : low (I.map Prod.fst) p ≠ j := fun e2 => hx (by subst e2; rw [← e1, e])
      rw [List.mem_iff_getElem]
      exact ⟨j, by rw [List.length_set]; exact hj, by rw [List.getElem_set, if_neg hjk, e]⟩
  · rw [if_neg hc]
    by_cases hf : 1024 ≤ I.length
    · rw [if_pos hf]
      exact ⟨h, fun _ => rfl, fun hl => hl, fun e => by cases e⟩
    · rw [if_neg hf]
      have hlow : low (I.map Prod.fst) p ≤ I.length := by have := low_le (I.map Prod.fst) p; rwa [List.length_map] at this
      have hmem : ∀ y, y ∈ I.take (low (I.map Prod.fst) p) ++ [(p, q)] ++ I.drop (low (I.map Prod.fst) p) ↔ y = (p, q) ∨ y ∈ I := fun y => by
        rw [List.mem_append, List.mem_append, List.mem_singleton]
        have e : y ∈ I ↔ y ∈ I.take (low (I.map Prod.fst) p) ∨ y ∈ I.drop (low (I.map Prod.fst) p) := by
          conv => lhs; rw [← List.take_append_drop (low (I.map Prod.fst) p) I]
          exact List.mem_append
        rw [e]
        constructor
        · rintro ((h | h) | h)
          · exact .inr (.inl h)
          · exact .inl h
          · exact .inr (.inr h)
        · rintro (h | h | h)
          · exact .inl (.inr h)
          · exact .inl (.inl h)
          · exact .inr h
      refine ⟨okI_iff.2 ⟨fun x hx => ?_, ?_⟩, fun e => (by cases e), fun hl => by rw [ins_len I _ _ hlow]; omega, fun _ => ⟨(hmem _).2 (.inl rfl), fun x v hx => ?_⟩⟩
      · rcases (hmem x).1 hx with rfl | hx
        · exact ⟨hp, hq⟩
        · exact h1 x hx
      · rw [map_insI]
        exact srt_insL hs hc
      · rw [hmem]
        exact ⟨fun e => e.elim (fun e => by injection e with e; exact absurd e hx) id, .inr⟩
theorem delS_spec {I : List (By × By)} {p : By} (h : OkI I) : OkI (delS I p).1 ∧ ((delS I p).2 = false → (delS I p).1 = I) ∧ (delS I p).1.length ≤ I.length ∧ ((delS I p).2 = true → p ∉ (delS I p).1.map Prod.fst ∧ ∀ x v, x ≠ p → ((x, v) ∈ (delS I p).1 ↔ (x, v) ∈ I)) := by
  obtain ⟨h1, hs⟩ := okI_iff.1 h
  unfold delS
  by_cases hc : p ∈ I.map Prod.fst
  · rw [if_pos hc]
    obtain ⟨hk, e1⟩ := mem_low hs hc
    obtain ⟨hk2, e2⟩ := low_at hs hc
    refine ⟨okI_iff.2 ⟨fun x hx => h1 x ((cut_sub _ _).subset hx), by rw [map_cut]; exact srt_cut hs⟩, fun e => (by cases e), by have := cut_len hk; show (cutI I _).length ≤ I.length; omega, fun _ => ⟨fun hm => ?_, fun x v hx => ⟨fun hm => (cut_sub _ _).subset hm, fun hm => ?_⟩⟩⟩
    · rw [map_cut, mem_cut hs hk2 e2] at hm
      exact hm.2 rfl
    · obtain ⟨j, hj, e⟩ := List.getElem_of_mem hm
      have hjk : j ≠ low (I.map Prod.fst) p := fun e3 => hx (by subst e3; rw [← e1, e])
      unfold cutI
      rw [List.mem_append]
      rcases Nat.lt_or_gt_of_ne hjk with h2 | h2
      · exact .inl (List.mem_take_iff_getElem.2 ⟨j, by omega, e⟩)
      · exact .inr (List.mem_drop_iff_getElem.2 ⟨j - (low (I.map Prod.fst) p + 1), by omega, by rw [← e]; congr 1; omega⟩)
  · rw [if_neg hc]
    exact ⟨h, fun _ => rfl, Nat.le_refl _, fun e => by cases e⟩
end Go.Proofs.Ytahkeoegbjopfaa
