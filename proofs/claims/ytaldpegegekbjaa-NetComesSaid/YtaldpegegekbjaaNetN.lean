/-
  The statement NetComes: its walk.
-/
import Derived.Test.YtaldpegegekbjaaNetM
namespace Go.Proofs.Ytaldpegegekbjaa
open Go.RowKit
/-- Between two acts: the net in block g5 and the list of what is wanted hold the same envelopes. -/
def St (w : World) (g5 : Nat) (K : Int) (W : World) (A7 : Option Addr) (c7 : Nat) (L : List En) : Prop :=
  ∃ A c lo hi q, OwnEn w.heap.size W lo hi A c L ∧ Blk W g5 27 [.int .i64 K, .slice A L.length c] ∧ OwnW W w q A7 c7 L ∧ w.heap.size ≤ q ∧ q ≤ W.heap.size ∧ hi ≤ W.heap.size ∧ netOk K L = true ∧ Below w.heap.size w W
theorem netErr_ok {k : Int} {L : List En} (h : netOk k L = true) : netErr k L = 0 := by unfold netErr; rw [h]; rfl
theorem netAt_none {k i : Int} {L : List En} (h : netOk k L = true) (h1 : i < 0 ∨ (L.length : Int) ≤ i) : netAt k L i = 6 := by
  unfold netAt; rw [h, if_neg (by decide), if_pos h1]
set_option maxRecDepth 100000 in
set_option maxHeartbeats 8000000 in
theorem C_NetComes {n : Int} {A : Option Addr} {acts : List Ac} {c : Nat} (w : World) (wn : (Lit.int .i64 n).wf = true) (hL : RAc w A acts) (hc : acts.length ≤ c) (hmx : c ≤ maxLen) :
    CallsR Try.prog 3 [.int .i64 n, .slice A acts.length c] w fun v w' => v = .bool true ∧ Below w.heap.size w w' := by
  refine callsR Try.func3 rfl rfl (by kernel_rfl) rfl ?_
  have hw := Below.refl w.heap.size w
  refine rk_seq ?_
  refine rk_region ?_
  refine wl_p (fun _ => o_assign rfl) ?_
  refine wl_nil ?_
  refine rk_seq ?_
  refine rk_seq ?_
  refine rk_region ?_
  refine wl_call rfl (C_livesN _) ?_
  rintro v20 w20 ⟨rfl, b20⟩
  have s20 := b20.size
  replace hw := hw.trans (b20.mono hw.size)
  refine wl_p (fun _ => o_not rfl) ?_
  refine wl_nil ?_
  refine rk_false rfl ?_
  refine rk_skip ?_
  refine rk_seq ?_
  refine rk_seq ?_
  refine rk_region ?_
  refine wl_p (fun _ => o_move rfl) ?_
  refine wl_call rfl (C_light _ (hL.u hw) rfl (by omega) (by omega)) ?_
  rintro v23 w23 ⟨b23, ⟨rfl, ⟨i23, b23_1⟩⟩⟩
  have s23 := b23_1.size
  replace hw := hw.trans (b23_1.mono hw.size)
  refine wl_p (fun _ => o_not rfl) ?_
  refine wl_nil ?_
  refine rk_cond rfl (fun h24 => ?_) (fun h24 => ?_) <;> try simp only [decide_eq_true_eq, decide_eq_false_iff_not, Bool.not_eq_true', Bool.not_eq_false', Bool.and_eq_true, Bool.and_eq_false_iff, Bool.or_eq_true, Bool.or_eq_false_iff] at h24
  · refine rk_seq ?_
    refine rk_region ?_
    refine wl_p (fun _ => o_assign rfl) ?_
    refine wl_nil ?_
    refine ret1 rfl rfl ?_
    exact ⟨rfl, hw⟩
  have hlight : lightAc acts := (show b23 = true → lightAc acts by assumption) (by assumption)
  obtain ⟨hl1, hl2⟩ := hlight
  have hpk := pick_range n (m := 7) (by decide)
  obtain ⟨K, hK⟩ : ∃ K : Int, 1 + pick n 7 = K := ⟨_, rfl⟩
  refine rk_skip ?_
  refine rk_seq ?_
  refine rk_region ?_
  refine wl_p (fun _ => o_move rfl) ?_
  refine wl_call rfl (C_PickR _ (by rfl) wn (by rfl)) ?_
  rintro v27 w27 ⟨rfl, b27⟩
  have s27 := b27.size
  replace hw := hw.trans (b27.mono hw.size)
  refine wl_p (fun _ => o_add rfl rfl (by omega) (by omega)) ?_
  refine wl_call rfl (C_NewOk _ (by omega) (by omega)) ?_
  rintro v29 w29 ⟨rfl, b29⟩
  have s29 := b29.size
  replace hw := hw.trans (b29.mono hw.size)
  refine wl_p (fun _ => o_move rfl) ?_
  refine wl_p (fun _ => o_ext20 rfl) ?_
  refine wl_p (fun _ => o_ext21 rfl) ?_
  refine wl_allocg [_, _] Try.zeroValue27 (by rfl) ?_
  rintro g5 w5 f5 b5 i5 i5_1
  have s5 := b5.size
  replace hw := hw.trans (b5.mono hw.size)
  refine wl_storega Try.sizeOf27 rfl rfl (by rfl) (oneCell_of (by rfl)) f5 (by rfl) ?_
  rintro w_1 f g e
  have s := g.size
  replace hw := hw.trans (below_of_grownBy g.g hw.size (by omega))
  clear f5
  refine wl_p (fun _ => o_assign rfl) ?_
  refine wl_nil ?_
  refine rk_seq ?_
  refine rk_seq ?_
  refine rk_region ?_
  refine wl_p (fun _ => o_move rfl) ?_
  refine wl_p (fun _ => o_ne rfl rfl) ?_
  refine wl_nil ?_
  refine rk_false rfl ?_
  refine rk_skip ?_
  refine rk_seq ?_
  refine rk_region ?_
  refine wl_p (fun _ => o_assign rfl) ?_
  refine wl_nil ?_
  refine rk_seq ?_
  refine rk_seq ?_
  refine rk_region ?_
  refine wl_p (fun _ => o_assign rfl) ?_
  refine wl_nil ?_
  refine rk_block ?_
  rw [hK] at f ⊢
  have hK1 : 1 ≤ K := by omega
  have hK7 : K ≤ 7 := by omega
  have hg5 := f.lt
  refine rk_joinf (fun fb fr w2 => fr = [] ++ fb.drop 2 ∧ Below w.heap.size w w2) ?_ (fun ks hj => ?_)
  rotate_left
  · refine rk_loopf (fun fb m fr w2 => ∃ (i : Nat) (v : Int) (A7 : Option Addr) (c7 : Nat) (L : List En), fr = [(8, .int .i64 v), (7, .slice A7 L.length c7)] ++ fb.drop 2 ∧ v = i ∧ i ≤ acts.length ∧ m = acts.length - i ∧ St w g5 K w2 A7 c7 L) (n := acts.length) (Fr.le_of (by kernel_rfl) (by kernel_rfl) (by repeat' constructor)) ⟨0, _, none, 0, [], rfl, rfl, by omega, rfl, none, 0, 0, 0, w.heap.size, OwnEn.nil_, f, OwnW.nil_, Nat.le_refl _, hw.size, Nat.zero_le _, netOk_nil hK1 hK7, hw⟩ ?_
    clear hw f
    rintro m fr w2 ⟨i, v, A7, c7, L, rfl, rfl, hi, rfl, A1, c1, lo, hi', q, fn, f5, fw, hq, hq2, hhi, hok, hw⟩
    have shw := hw.size
    have hl5 := (netOk_parts hok).2.2.1
    have mL : L.length ≤ maxLen := by simp only [maxLen]; omega
    have hg5 := f5.lt
    first | refine rk_frame (by simp only [List.cons_append, List.nil_append, List.drop_succ_cons, List.drop_zero]; rfl) ?_ | refine wl_frame (by simp only [List.cons_append, List.nil_append, List.drop_succ_cons, List.drop_zero]; rfl) ?_
    refine rk_seq ?_
    refine rk_seq ?_
    refine rk_region ?_
    refine wl_p (fun _ => o_move rfl) ?_
    refine wl_p (fun _ => o_move rfl) ?_
    refine wl_p (fun _ => o_len (t := 22) Try.underlying22 rfl) ?_
    refine wl_p (fun _ => o_lt rfl rfl) ?_
    refine wl_nil ?_
    refine rk_if rfl (fun h37 => ?_) (fun h37 => ?_)
    · have hil : i < acts.length := by omega
      have ha2 := hl2 _ (List.getElem_mem hil)
      have hpk := pick_range acts[i].1 (m := 5) (by decide)
      obtain ⟨k, hk⟩ : ∃ k : Int, pick acts[i].1 5 = k := ⟨_, rfl⟩
      refine rk_skip ?_
      refine rk_seq ?_
      refine rk_block ?_
      refine rk_seq ?_
      refine rk_region ?_
      refine wl_p (fun _ => o_move rfl) ?_
      refine wl_p (fun _ => o_move rfl) ?_
      refine wl_p (fun _ => (o_iaddrA (i) Try.underlying22 Try.sizeOf36 rfl rfl rfl (hL.some_ (by omega)) (by omega))) ?_
      refine wl_ldAct rfl hL hw (by omega) ?_
      rintro A143 c143 f43 i43 i43_1 e43 e43_1 e43_2 e43_3
      refine wl_allocg [_, _, _, _, _] Try.zeroValue36 (by rfl) ?_
      rintro g9 w9 f9 b9 i9 i9_1
      have s9 := b9.size
      replace hw := hw.trans (b9.mono hw.size)
      replace fw := fw.u b9
      replace f5 := f5.u b9
      replace fn := fn.u b9
      refine wl_storega Try.sizeOf36 rfl rfl (by rfl) (oneCell_of (by rfl)) f9 (by rfl) ?_
      rintro w_2 f g_1 e_1
      have s_1 := g_1.size
      replace hw := hw.trans (below_of_grownBy g_1.g hw.size (by omega))
      replace fn := fn.y g_1 (by decide)
      replace f5 := f5.k g_1.g (ap_some (by omega))
      replace fw := fw.y g_1 (by decide)
      clear f9
      refine wl_nil ?_
      refine rk_seq ?_
      refine rk_seq ?_
      refine rk_region ?_
      refine wl_p (fun _ => o_faddr (s := 36) (i := 0) (off := 0) Try.underlying36 rfl Try.sizeOf3 rfl rfl rfl) ?_
      refine wl_r (o_loadbg Try.isAgg3 rfl f (by rfl)) ?_
      refine wl_call rfl (C_PickR _ hk e43 (by rfl)) ?_
      rintro v46 w46 ⟨rfl, b46⟩
      have s46 := b46.size
      replace hw := hw.trans (b46.mono hw.size)
      replace fw := fw.u b46
      replace f5 := f5.u b46
      replace fn := fn.u b46
      replace f := f.u b46
      refine wl_nil ?_
      rw [hk] at hpk
      refine rk_block ?_
      refine rk_joinf (fun fb fr w3 => ∃ A7 c7 L, fr = [(7, .slice A7 (List.length L) c7)] ++ fb ∧ St w g5 K w3 A7 c7 L) ?_ (fun ks hj => ?_)
      · clear f5 fw fn hw hq hq2 hhi hok hl5 mL shw
        rintro fr w3 ⟨A7, c7, L, rfl, A1, c1, lo, hi', q, fn, f5, fw, hq, hq2, hhi, hok, hw⟩
        have shw := hw.size
        have hl5 := (netOk_parts hok).2.2.1
        have mL : L.length ≤ maxLen := by simp only [maxLen]; omega
        have he := netErr_ok hok
        have fR := fw.rd hw
        first | refine rk_frame (by simp only [List.cons_append, List.nil_append, List.drop_succ_cons, List.drop_zero]; rfl) ?_ | refine wl_frame (by simp only [List.cons_append, List.nil_append, List.drop_succ_cons, List.drop_zero]; rfl) ?_
        refine rk_seq ?_
        refine rk_region ?_
        refine wl_r (o_loadag Try.isAgg27 Try.sizeOf27 rfl f5 (by rfl)) ?_
        refine wl_p (fun _ => o_faddr (s := 27) (i := 0) (off := 0) Try.underlying27 rfl Try.sizeOf3 rfl rfl rfl) ?_
        refine wl_r (o_loadbg Try.isAgg3 rfl f5 (by rfl)) ?_
        refine wl_p (fun _ => o_move rfl) ?_
        refine wl_p (fun _ => (o_buildg [_, _] Try.underlying27 Try.zeroValue27 (by rfl) (by rfl) rfl (by rfl) (by rfl) (fun _ => by kernel_rfl))) ?_
        refine wl_call rfl (C_NetK _ fn.to_REn fR rfl rfl (by omega) (by omega)) ?_
        rintro v275 w275 ⟨rfl, b275⟩
        have s275 := b275.size
        replace hw := hw.trans (b275.mono hw.size)
        replace fR := fR.u b275
        replace fw := fw.u b275
        replace f5 := f5.u b275
        replace fn := fn.u b275
        refine wl_p (fun _ => o_not rfl) ?_
        refine wl_p (fun _ => o_move rfl) ?_
        refine wl_know 277 false rfl (by simp) ?_
        refine wl_r (o_loadag Try.isAgg27 Try.sizeOf27 rfl f5 (by rfl)) ?_
        refine wl_call rfl (C_Check _ fn.to_REn he rfl (by omega)) ?_
        rintro v279 w279 ⟨rfl, b279⟩
        have s279 := b279.size
        replace hw := hw.trans (b279.mono hw.size)
        replace fn := fn.u b279
        replace f5 := f5.u b279
        replace fw := fw.u b279
        replace fR := fR.u b279
        refine wl_p (fun _ => o_ne rfl rfl) ?_
        refine wl_p (fun _ => o_pick_f rfl rfl) ?_
        refine wl_nil ?_
        refine rk_false rfl ?_
        refine rk_skip ?_
        refine rk_blk ?_
        refine rk_region ?_
        refine wl_p (fun _ => o_move rfl) ?_
        refine wl_p (fun _ => o_add rfl rfl (by omega) (by omega)) ?_
        refine wl_p (fun _ => o_assign rfl) ?_
        refine wl_nil ?_
        exact rk_againf (Fr.le_of (by kernel_rfl) (by kernel_rfl) (by repeat' constructor)) ⟨i + 1, _, A7, c7, L, rfl, by omega, by omega, rfl, A1, c1, lo, hi', q, fn, f5, fw, hq, by omega, by omega, hok, hw⟩ (by omega)
      · obtain ⟨N, hN⟩ : ∃ N : Int, acts[i].2.2.2 = N := ⟨_, rfl⟩
        obtain ⟨r, hr⟩ : ∃ r : Int, netAt K L N = r := ⟨_, rfl⟩
        have wN : (Lit.int .i64 N).wf = true := hN ▸ (show (Lit.int .i64 acts[i].2.2.2).wf = true by assumption)
        have w5 : (Lit.int .i64 5).wf = true := by decide
        rw [hN] at f
        refine rk_seq ?_
        refine rk_seq ?_
        refine rk_region ?_
        refine wl_p (fun _ => o_eq rfl rfl) ?_
        refine wl_p (fun _ => o_assign rfl) ?_
        refine wl_nil ?_
        refine rk_if rfl (fun h138 => ?_) (fun h138 => ?_)
        · refine rk_skip ?_
          refine rk_if rfl (fun h138 => ?_) (fun h138 => h138.elim (by omega))
          refine rk_seq ?_
          refine rk_region ?_
          refine wl_allocg [_, _, _] Try.zeroValue38 (by rfl) ?_
          rintro g10 w10 f10 b10 i10 i10_1
          have s10 := b10.size
          replace hw := hw.trans (b10.mono hw.size)
          replace f := f.u b10
          replace fn := fn.u b10
          replace f5 := f5.u b10
          replace fw := fw.u b10
          refine wl_nil ?_
          refine rk_seq ?_
          refine rk_region ?_
          refine wl_r (o_loadag Try.isAgg27 Try.sizeOf27 rfl f5 (by rfl)) ?_
          refine wl_allocg [_, _] Try.zeroValue27 (by rfl) ?_
          rintro g11 w11 f11 b11 i11 i11_1
          have s11 := b11.size
          replace hw := hw.trans (b11.mono hw.size)
          replace fw := fw.u b11
          replace f5 := f5.u b11
          replace fn := fn.u b11
          replace f := f.u b11
          replace f10 := f10.u b11
          refine wl_storega Try.sizeOf27 rfl rfl (by rfl) (oneCell_of (by rfl)) f11 (by rfl) ?_
          rintro w_3 f_1 g_2 e_2
          have s_2 := g_2.size
          replace hw := hw.trans (below_of_grownBy g_2.g hw.size (by omega))
          replace f10 := f10.k g_2.g (ap_some (by omega))
          replace f := f.k g_2.g (ap_some (by omega))
          replace fn := fn.y g_2 (by decide)
          replace f5 := f5.k g_2.g (ap_some (by omega))
          replace fw := fw.y g_2 (by decide)
          clear f11
          refine wl_p (fun _ => o_assign rfl) ?_
          refine wl_nil ?_
          refine rk_seq ?_
          refine rk_seq ?_
          refine rk_region ?_
          refine wl_p (fun _ => o_faddr (s := 36) (i := 0) (off := 0) Try.underlying36 rfl Try.sizeOf3 rfl rfl rfl) ?_
          refine wl_r (o_loadbg Try.isAgg3 rfl f (by rfl)) ?_
          refine wl_call rfl (C_PickR _ hk e43 w5) ?_
          rintro v144 w144 ⟨rfl, b144⟩
          have s144 := b144.size
          replace hw := hw.trans (b144.mono hw.size)
          replace fw := fw.u b144
          replace f5 := f5.u b144
          replace fn := fn.u b144
          replace f := f.u b144
          replace f10 := f10.u b144
          replace f_1 := f_1.u b144
          refine wl_p (fun _ => o_eq rfl rfl) ?_
          refine wl_nil ?_
          refine rk_if rfl (fun h145 => ?_) (fun h145 => h145.elim (by omega))
          refine rk_region ?_
          refine wl_r (o_loadag Try.isAgg27 Try.sizeOf27 rfl f5 (by rfl)) ?_
          refine wl_p (fun _ => o_faddr (s := 36) (i := 3) (off := 4) Try.underlying36 rfl Try.sizeOf3 rfl rfl rfl) ?_
          refine wl_r (o_loadbg Try.isAgg3 rfl f (by rfl)) ?_
          refine wl_call rfl (C_Take _ fn.to_REn hr rfl (by omega) wN) ?_
          rintro v150 w150 ⟨x150, ⟨A1150, ⟨c1150, ⟨k150, ⟨A150, ⟨c150, ⟨Q150, ⟨rfl, ⟨f150, ⟨f150_1, ⟨i150, ⟨i150_1, b150⟩⟩⟩⟩⟩⟩⟩⟩⟩⟩⟩⟩
          have qf150 := f150.cap
          have qf150_1 := f150_1.cap
          have s150 := b150.size
          replace hw := hw.trans (b150.mono hw.size)
          replace f_1 := f_1.u b150
          replace f10 := f10.u b150
          replace f := f.u b150
          replace fn := fn.u b150
          replace f5 := f5.u b150
          replace fw := fw.u b150
          refine wl_p (fun _ => o_move rfl) ?_
          refine wl_p (fun _ => o_ext30 rfl) ?_
          refine wl_p (fun _ => o_ext31 rfl) ?_
          refine wl_p (fun _ => o_ext32 rfl) ?_
          refine wl_storega Try.sizeOf38 rfl rfl (by rfl) (oneCell_of (by rfl)) f10 (by rfl) ?_
          rintro w_4 f_2 g_3 e_3
          have s_3 := g_3.size
          replace hw := hw.trans (below_of_grownBy g_3.g hw.size (by omega))
          replace fw := fw.q g_3 (ap_some (by omega)) (by decide)
          replace f5 := f5.k g_3.g (ap_some (by omega))
          replace fn := fn.q g_3 (ap_some (by omega)) (by decide)
          replace f := f.k g_3.g (ap_some (by omega))
          replace f_1 := f_1.k g_3.g (ap_some (by omega))
          replace f150_1 := f150_1.k g_3.g (ap_some (by omega))
          replace f150 := f150.q g_3 (ap_some (by omega)) (by decide)
          clear f10
          refine wl_storega Try.sizeOf27 rfl rfl (by rfl) (oneCell_of (by rfl)) f_1 (by rfl) ?_
          rintro w_5 f_3 g_4 e_4
          have s_4 := g_4.size
          replace hw := hw.trans (below_of_grownBy g_4.g hw.size (by omega))
          replace f150 := f150.y g_4 (by decide)
          replace f150_1 := f150_1.k g_4.g (ap_some (by omega))
          replace f := f.k g_4.g (ap_some (by omega))
          replace fn := fn.y g_4 (by decide)
          replace f5 := f5.k g_4.g (ap_some (by omega))
          replace fw := fw.y g_4 (by decide)
          replace f_2 := f_2.k g_4.g (ap_some (by omega))
          clear f_1
          refine wl_p (fun _ => o_assign rfl) ?_
          refine wl_nil ?_
          refine rk_seq ?_
          refine rk_seq ?_
          refine rk_region ?_
          refine wl_p (fun _ => o_faddr (s := 36) (i := 3) (off := 4) Try.underlying36 rfl Try.sizeOf3 rfl rfl rfl) ?_
          refine wl_r (o_loadbg Try.isAgg3 rfl f (by rfl)) ?_
          refine wl_p (fun _ => o_lt rfl rfl) ?_
          refine wl_p (fun _ => o_move rfl) ?_
          have bad : r = 6 → ∀ {W : World}, OwnEn w.heap.size W lo hi' A1 c1 L → Blk W g5 27 [.int .i64 K, .slice A1 L.length c1] → OwnW W w q A7 c7 L → w2.heap.size ≤ W.heap.size → Below w.heap.size w W → St w g5 K W A7 c7 L :=
            fun _ W h1 h2 h3 h4 h5 => ⟨A1, c1, lo, hi', q, h1, h2, h3, hq, by omega, by omega, hok, h5⟩
          refine wl_bool 164 rfl (fun h164 => ?_) (fun h164 => ?_) <;> try simp only [decide_eq_true_eq, decide_eq_false_iff_not, Bool.not_eq_true', Bool.not_eq_false', Bool.and_eq_true, Bool.and_eq_false_iff, Bool.or_eq_true, Bool.or_eq_false_iff] at h164
          · have hr6 : r = 6 := by rw [← hr]; exact netAt_none hok (.inl h164)
            refine wl_off ?_
            refine wl_off ?_
            refine wl_off ?_
            refine wl_off ?_
            refine wl_off ?_
            refine wl_p (fun _ => o_pick_t rfl rfl) ?_
            refine wl_nil ?_
            refine rk_true rfl ?_
            refine rk_seq ?_
            refine rk_seq ?_
            refine rk_region ?_
            refine wl_p (fun _ => o_move rfl) ?_
            refine wl_p (fun _ => o_ne rfl rfl) ?_
            refine wl_nil ?_
            refine rk_if rfl (fun h172 => absurd h172 (by omega)) (fun h172 => ?_)
            refine rk_skip ?_
            refine rk_exit rfl ?_
            exact rk_tof hj (Fr.le_of (by kernel_rfl) (by kernel_rfl) (by repeat' constructor)) ⟨A7, c7, L, rfl, bad hr6 fn f5 fw (by omega) hw⟩
          · refine wl_p (fun _ => o_faddr (s := 36) (i := 3) (off := 4) Try.underlying36 rfl Try.sizeOf3 rfl rfl rfl) ?_
            refine wl_r (o_loadbg Try.isAgg3 rfl f (by rfl)) ?_
            refine wl_p (fun _ => o_move rfl) ?_
            refine wl_p (fun _ => o_len (t := 25) Try.underlying25 rfl) ?_
            refine wl_p (fun _ => o_ge rfl rfl) ?_
            refine wl_p (fun _ => o_pick_f rfl rfl) ?_
            refine wl_nil ?_
            refine rk_if rfl (fun h170 => ?_) (fun h170 => ?_)
            · have hr6 : r = 6 := by rw [← hr]; exact netAt_none hok (.inr h170)
              refine rk_seq ?_
              refine rk_seq ?_
              refine rk_region ?_
              refine wl_p (fun _ => o_move rfl) ?_
              refine wl_p (fun _ => o_ne rfl rfl) ?_
              refine wl_nil ?_
              refine rk_if rfl (fun h172 => absurd h172 (by omega)) (fun h172 => ?_)
              refine rk_skip ?_
              refine rk_exit rfl ?_
              exact rk_tof hj (Fr.le_of (by kernel_rfl) (by kernel_rfl) (by repeat' constructor)) ⟨A7, c7, L, rfl, bad hr6 fn f5 fw (by omega) hw⟩
            · have hr0 : r = 0 := by rw [← hr]; exact netAt_ok hok (by omega) (by omega)
              obtain ⟨j, rfl⟩ : ∃ j : Nat, N = j := ⟨N.toNat, by omega⟩
              have hjl : j < L.length := by omega
              obtain ⟨rfl, rfl, _, rfl⟩ := (show r = 0 → k150 = K ∧ Q150 = cutI L j ∧ ∃ h : j < L.length, x150 = L[j] by assumption) hr0
              have fR := fw.rd hw
              have hcap := fw.cap
              refine rk_skip ?_
              refine rk_seq ?_
              refine rk_seq ?_
              refine rk_draw (id := 36) (none) [0, 1, 2, 4, 12, 20, 36, 100, 128, 384, 128, 128, 2176, 5248, 8320, 16512, 33408, 65664, 131072, 393216, 131072, 131072, 2228224, 5373952, 8519680, 16908288, 34209792, 67240064, 134348928, 268435456, 805306368, 1342177280, 268435456, 268435456, 8858370048, 21743271936, 34628173824, 68987912192, 137707388928, 277293826048, 550024249472, 1099511627908, 2199023255556] [0, 1, 3, 7, 15, 31, 63, 127, 255, 511, 255, 255, 2303, 7423, 15615, 31999, 65535, 131071, 262143, 524287, 262143, 262143, 2359295, 7602175, 15990783, 32767999, 67108863, 134217727, 268435455, 536870911, 1073741823, 2147483647, 536870911, 536870911, 9126805503, 30601641983, 64961380351, 133680857087, 271119810559, 549755813887, 1099511627775, 2199023255551, 4398046511103] 32 0 [(.p, 0), (.p, 1), (.p, 2), (.p, 3), (.r, 4), (.l, 5), (.p, 6), (.p, 7), (.p, 8), (.r, 9), (.p, 10), (.p, 11), (.r, 12), (.p, 13), (.p, 14), (.r, 15), (.p, 16), (.p, 17), (.p, 18), (.r, 19), (.p, 20), (.p, 21), (.r, 22), (.p, 23), (.p, 24), (.r, 25), (.p, 26), (.p, 27), (.p, 28), (.p, 29), (.r, 30), (.r, 31), (.p, 32), (.p, 33), (.r, 34), (.p, 35), (.p, 36), (.r, 37), (.r, 38), (.p, 39), (.p, 40), (.p, 41), (.p, 42)] (by kernel_rfl) (by kernel_rfl) (by kernel_rfl) (by kernel_rfl) (by kernel_rfl) ?_
              replace hw := hw.drew
              replace fR := fR.d
              replace f_2 := f_2.d
              replace f150_1 := f150_1.d
              replace f150 := f150.d
              replace f_3 := f_3.d
              replace f5 := f5.d
              replace f := f.d
              replace fw := fw.d
              replace fn := fn.d
              refine wl_p (fun _ => o_move rfl) ?_
              refine wl_p (fun _ => o_ne rfl rfl) ?_
              refine wl_p (fun _ => o_move rfl) ?_
              refine wl_know 175 false rfl (decide_eq_false (by omega)) ?_
              refine wl_p (fun _ => o_faddr (s := 36) (i := 0) (off := 0) Try.underlying36 rfl Try.sizeOf3 rfl rfl rfl) ?_
              refine wl_r (o_loadbg Try.isAgg3 rfl f (by rfl)) ?_
              refine wl_call rfl (C_PickR _ hk e43 w5) ?_
              rintro v178 w178 ⟨rfl, b178⟩
              simp only [drew_size] at b178
              have s178 := b178.size
              simp only [drew_size] at s178
              replace hw := hw.trans (b178.mono hw.size)
              replace fn := fn.u b178
              replace fw := fw.u b178
              replace f := f.u b178
              replace f5 := f5.u b178
              replace f_3 := f_3.u b178
              replace f150 := f150.u b178
              replace f150_1 := f150_1.u b178
              replace f_2 := f_2.u b178
              replace fR := fR.u b178
              refine wl_p (fun _ => o_eq rfl rfl) ?_
              refine wl_p (fun _ => o_move rfl) ?_
              refine wl_know 180 true rfl (decide_eq_true (by omega)) ?_
              refine wl_p (fun _ => o_faddr (s := 38) (i := 0) (off := 0) Try.underlying38 rfl Try.sizeOf3 rfl rfl rfl) ?_
              refine wl_r (o_loadbg Try.isAgg3 rfl f_2 (by rfl)) ?_
              refine wl_p (fun _ => o_move rfl) ?_
              refine wl_p (fun _ => o_faddr (s := 36) (i := 3) (off := 4) Try.underlying36 rfl Try.sizeOf3 rfl rfl rfl) ?_
              refine wl_r (o_loadbg Try.isAgg3 rfl f (by rfl)) ?_
              refine wl_p (fun _ => (o_iaddrA (j) Try.underlying25 Try.sizeOf38 rfl rfl rfl (fR.some_ (by omega)) (by omega))) ?_
              refine wl_p (fun _ => (o_faddrR rfl Try.underlying38 (by rfl) Try.sizeOf3 (by rfl) (by rfl))) ?_
              refine wl_r (o_ldFrom rfl fR (Below.refl _ _) (by omega)) ?_
              refine wl_p (fun _ => o_ne rfl rfl) ?_
              refine wl_p (fun _ => o_move rfl) ?_
              refine wl_know 190 false rfl (decide_eq_false (by omega)) ?_
              refine wl_p (fun _ => o_faddr (s := 38) (i := 1) (off := 1) Try.underlying38 rfl Try.sizeOf3 rfl rfl rfl) ?_
              refine wl_r (o_loadbg Try.isAgg3 rfl f_2 (by rfl)) ?_
              refine wl_p (fun _ => o_move rfl) ?_
              refine wl_p (fun _ => o_faddr (s := 36) (i := 3) (off := 4) Try.underlying36 rfl Try.sizeOf3 rfl rfl rfl) ?_
              refine wl_r (o_loadbg Try.isAgg3 rfl f (by rfl)) ?_
              refine wl_p (fun _ => (o_iaddrA (j) Try.underlying25 Try.sizeOf38 rfl rfl rfl (fR.some_ (by omega)) (by omega))) ?_
              refine wl_p (fun _ => (o_faddrR rfl Try.underlying38 (by rfl) Try.sizeOf3 (by rfl) (by rfl))) ?_
              refine wl_r (o_ldTo rfl fR (Below.refl _ _) (by omega)) ?_
              refine wl_p (fun _ => o_ne rfl rfl) ?_
              refine wl_p (fun _ => o_pick_f rfl rfl) ?_
              refine wl_p (fun _ => o_move rfl) ?_
              refine wl_know 201 false rfl (decide_eq_false (by omega)) ?_
              refine wl_p (fun _ => o_faddr (s := 38) (i := 2) (off := 2) Try.underlying38 rfl Try.sizeOf32 rfl rfl rfl) ?_
              refine wl_r (o_loadbg Try.isAgg32 rfl f_2 (by rfl)) ?_
              refine wl_r (o_strU Try.underlying32 Try.underlying5 Try.underlying9 rfl f150_1.to_Rd (Below.refl _ _) rfl) ?_
              refine wl_p (fun _ => o_move rfl) ?_
              refine wl_p (fun _ => o_faddr (s := 36) (i := 3) (off := 4) Try.underlying36 rfl Try.sizeOf3 rfl rfl rfl) ?_
              refine wl_r (o_loadbg Try.isAgg3 rfl f (by rfl)) ?_
              refine wl_p (fun _ => (o_iaddrA (j) Try.underlying25 Try.sizeOf38 rfl rfl rfl (fR.some_ (by omega)) (by omega))) ?_
              refine wl_p (fun _ => (o_faddrR rfl Try.underlying38 (by rfl) Try.sizeOf32 (by rfl) (by rfl))) ?_
              refine wl_ldRaw rfl fR (Below.refl _ _) (by omega) ?_
              rintro A1210 c1210 f210 i210 i210_1
              refine wl_r (o_strU Try.underlying32 Try.underlying5 Try.underlying9 rfl f210 (Below.refl _ _) rfl) ?_
              refine wl_p (fun _ => o_sne rfl rfl) ?_
              refine wl_p (fun _ => o_pick_f rfl rfl) ?_
              refine wl_p (fun _ => o_pick_t rfl rfl) ?_
              refine wl_p (fun _ => o_pick_f rfl rfl) ?_
              refine wl_nild ?_
              refine rk_cond rfl (fun h215 => by simp at h215) (fun h215 => ?_)
              refine rk_skip ?_
              refine rk_drawoB (id := 38) (none) [0, 0, 0, 0, 8, 20, 34, 0, 0, 256, 512, 1152, 2112, 4097, 16383] [0, 0, 0, 0, 8, 28, 62, 0, 0, 256, 768, 1920, 4094, 8191, 16383] 12354 4162 [0, 2, 3, 4, 5, 7, 8, 9, 10, 11, 1, 6, 12, 13, 14] [(.s, 0), (.p, 2), (.p, 3), (.s, 4), (.p, 5), (.p, 7), (.p, 8), (.s, 9), (.p, 10), (.p, 11), (.c, 1), (.c, 6), (.c, 12), (.l, 13), (.p, 14)] (by kernel_rfl) (by kernel_rfl) (by kernel_rfl) (by kernel_rfl) (by kernel_rfl) ?_
              dsimp only [inOrder, nthOp]
              replace hw := hw.drew
              replace f210 := f210.d
              replace fR := fR.d
              replace f_2 := f_2.d
              replace f150_1 := f150_1.d
              replace f150 := f150.d
              replace f_3 := f_3.d
              replace f5 := f5.d
              replace f := f.d
              replace fw := fw.d
              replace fn := fn.d
              refine wl_s (fun _ hk => (o_loadag Try.isAgg27 Try.sizeOf27 rfl (f_3.u (below_of_ok hk (Nat.le_refl _) (fun _ e => by cases e))) (by rfl))) ?_
              refine wl_p (fun _ => o_move rfl) ?_
              refine wl_p (fun _ => o_faddr (s := 36) (i := 3) (off := 4) Try.underlying36 rfl Try.sizeOf3 rfl rfl rfl) ?_
              refine wl_s (fun _ hk => (o_loadbg Try.isAgg3 rfl (f.u (below_of_ok hk (Nat.le_refl _) (fun _ e => by cases e))) (by rfl))) ?_
              refine wl_p (fun _ => (o_slHiE (j) rfl rfl rfl (by omega))) ?_
              refine wl_p (fun _ => o_move rfl) ?_
              refine wl_p (fun _ => o_faddr (s := 36) (i := 3) (off := 4) Try.underlying36 rfl Try.sizeOf3 rfl rfl rfl) ?_
              refine wl_s (fun _ hk => (o_loadbg Try.isAgg3 rfl (f.u (below_of_ok hk (Nat.le_refl _) (fun _ e => by cases e))) (by rfl))) ?_
              refine wl_p (fun _ => o_add rfl rfl (by omega) (by omega)) ?_
              refine wl_p (fun _ => (o_slLoE (j + 1) rfl rfl (by omega) (by omega))) ?_
              refine wl_litW0 hw ?_
              rintro A217 w217 p217 f217 i217 i217_1 b217
              simp only [drew_size] at i217
              simp only [drew_size] at b217
              have qf217 := f217.cap
              have s217 := b217.size
              simp only [drew_size] at s217
              replace hw := hw.trans (b217.mono hw.size)
              replace fn := fn.u b217
              replace fw := fw.u b217
              replace f := f.u b217
              replace f5 := f5.u b217
              replace f_3 := f_3.u b217
              replace f150 := f150.u b217
              replace f150_1 := f150_1.u b217
              replace f_2 := f_2.u b217
              replace fR := fR.u b217
              replace f210 := f210.u b217
              have e1 : (L.take j).length = j := by rw [List.length_take]; omega
              have e2 : (L.drop (j + 1)).length = L.length - (j + 1) := List.length_drop
              have m1 := fw.takeT j (by omega)
              refine wl_appW rfl f217 (by rfl) rfl m1 (by omega) (by omega) (by omega) ?_ (hq := .inr (.inr (f217.ge_ (by omega))))
              rintro A222 c222 w222 p222 f222 i222 i222_1 i222_2 g222 b222
              have qf222 := f222.cap
              have s222 := g222.size
              replace hw := hw.trans (b222.mono (by omega))
              replace f_2 := f_2.k g222.g (f217.ap (by omega))
              replace f150_1 := f150_1.y g222 (by decide)
              replace f150 := f150.q g222 (f217.ap (by omega)) (by decide)
              replace f_3 := f_3.y g222 (by decide)
              replace f5 := f5.y g222 (by decide)
              replace f := f.y g222 (by decide)
              replace fw := fw.q g222 (f217.ap (by omega)) (by decide)
              replace fn := fn.q g222 (f217.ap (by omega)) (by decide)
              clear m1
              clear f210
              clear fR
              clear f217
              have m2 := fw.dropT (j + 1) (by omega)
              refine wl_appW rfl f222 rfl rfl m2 (by omega) (by simp; omega) (by omega) ?_ (hq := .inr (.inr (f222.ge_ (by omega))))
              rintro A228 c228 w228 p228 f228 i228 i228_1 i228_2 g228 b228
              have qf228 := f228.cap
              have s228 := g228.size
              replace hw := hw.trans (b228.mono (by omega))
              replace fn := fn.q g228 (f222.ap (by omega)) (by decide)
              replace fw := fw.q g228 (f222.ap (by omega)) (by decide)
              replace f := f.y g228 (by decide)
              replace f5 := f5.y g228 (by decide)
              replace f_3 := f_3.y g228 (by decide)
              replace f150 := f150.q g228 (f222.ap (by omega)) (by decide)
              replace f150_1 := f150_1.y g228 (by decide)
              replace f_2 := f_2.k g228.g (f222.ap (by omega))
              clear m2
              clear f222
              refine wl_storega Try.sizeOf27 rfl rfl (by rfl) (oneCell_of (by rfl)) f5 (by rfl) ?_
              rintro w_6 f_1 g_5 e_5
              have s_5 := g_5.size
              replace hw := hw.trans (below_of_grownBy g_5.g hw.size (by omega))
              replace f_2 := f_2.k g_5.g (ap_some (by omega))
              replace f150_1 := f150_1.k g_5.g (ap_some (by omega))
              replace f150 := f150.y g_5 (by decide)
              replace f_3 := f_3.k g_5.g (ap_some (by omega))
              replace f := f.k g_5.g (ap_some (by omega))
              replace fw := fw.y g_5 (by decide)
              replace fn := fn.y g_5 (by decide)
              replace f228 := f228.y g_5 (by decide)
              clear f5
              refine wl_p (fun _ => o_assign rfl) ?_
              refine wl_nild ?_
              refine rk_blk ?_
              rw [show [] ++ L.take j ++ L.drop (j + 1) = cutI L j from rfl] at f228 ⊢
              exact rk_tof hj (Fr.le_of (by kernel_rfl) (by kernel_rfl) (by repeat' constructor)) ⟨A228, c228, cutI L j, rfl, A150, c150, _, _, p228, f150.mono (by omega), f_1, f228, by omega, by omega, by omega, netOk_cut hok, hw⟩
        · refine rk_region ?_
          refine wl_p (fun _ => o_eq rfl rfl) ?_
          refine wl_p (fun _ => o_assign rfl) ?_
          refine wl_nil ?_
          refine rk_if rfl (fun h138 => ?_) (fun h138 => ?_)
          · refine rk_seq ?_
            refine rk_region ?_
            refine wl_allocg [_, _, _] Try.zeroValue38 (by rfl) ?_
            rintro g10 w10 f10 b10 i10 i10_1
            have s10 := b10.size
            replace hw := hw.trans (b10.mono hw.size)
            replace f := f.u b10
            replace fn := fn.u b10
            replace f5 := f5.u b10
            replace fw := fw.u b10
            refine wl_nil ?_
            refine rk_seq ?_
            refine rk_region ?_
            refine wl_r (o_loadag Try.isAgg27 Try.sizeOf27 rfl f5 (by rfl)) ?_
            refine wl_allocg [_, _] Try.zeroValue27 (by rfl) ?_
            rintro g11 w11 f11 b11 i11 i11_1
            have s11 := b11.size
            replace hw := hw.trans (b11.mono hw.size)
            replace fw := fw.u b11
            replace f5 := f5.u b11
            replace fn := fn.u b11
            replace f := f.u b11
            replace f10 := f10.u b11
            refine wl_storega Try.sizeOf27 rfl rfl (by rfl) (oneCell_of (by rfl)) f11 (by rfl) ?_
            rintro w_3 f_1 g_2 e_2
            have s_2 := g_2.size
            replace hw := hw.trans (below_of_grownBy g_2.g hw.size (by omega))
            replace f10 := f10.k g_2.g (ap_some (by omega))
            replace f := f.k g_2.g (ap_some (by omega))
            replace fn := fn.y g_2 (by decide)
            replace f5 := f5.k g_2.g (ap_some (by omega))
            replace fw := fw.y g_2 (by decide)
            clear f11
            refine wl_p (fun _ => o_assign rfl) ?_
            refine wl_nil ?_
            refine rk_seq ?_
            refine rk_seq ?_
            refine rk_region ?_
            refine wl_p (fun _ => o_faddr (s := 36) (i := 0) (off := 0) Try.underlying36 rfl Try.sizeOf3 rfl rfl rfl) ?_
            refine wl_r (o_loadbg Try.isAgg3 rfl f (by rfl)) ?_
            refine wl_call rfl (C_PickR _ hk e43 w5) ?_
            rintro v144 w144 ⟨rfl, b144⟩
            have s144 := b144.size
            replace hw := hw.trans (b144.mono hw.size)
            replace fw := fw.u b144
            replace f5 := f5.u b144
            replace fn := fn.u b144
            replace f := f.u b144
            replace f10 := f10.u b144
            replace f_1 := f_1.u b144
            refine wl_p (fun _ => o_eq rfl rfl) ?_
            refine wl_nil ?_
            refine rk_if rfl (fun h145 => absurd h145 (by omega)) (fun h145 => ?_)
            refine rk_region ?_
            refine wl_r (o_loadag Try.isAgg27 Try.sizeOf27 rfl f5 (by rfl)) ?_
            refine wl_p (fun _ => o_faddr (s := 36) (i := 3) (off := 4) Try.underlying36 rfl Try.sizeOf3 rfl rfl rfl) ?_
            refine wl_r (o_loadbg Try.isAgg3 rfl f (by rfl)) ?_
            refine wl_call rfl (C_Drop _ fn.to_REn hr rfl (by omega) wN) ?_
            rintro v158 w158 ⟨k158, ⟨A158, ⟨c158, ⟨Q158, ⟨rfl, ⟨f158, ⟨i158, ⟨i158_1, b158⟩⟩⟩⟩⟩⟩⟩⟩
            have qf158 := f158.cap
            have s158 := b158.size
            replace hw := hw.trans (b158.mono hw.size)
            replace f_1 := f_1.u b158
            replace f10 := f10.u b158
            replace f := f.u b158
            replace fn := fn.u b158
            replace f5 := f5.u b158
            replace fw := fw.u b158
            refine wl_p (fun _ => o_move rfl) ?_
            refine wl_p (fun _ => o_ext20 rfl) ?_
            refine wl_p (fun _ => o_ext21 rfl) ?_
            refine wl_storega Try.sizeOf27 rfl rfl (by rfl) (oneCell_of (by rfl)) f_1 (by rfl) ?_
            rintro w_4 f_2 g_3 e_3
            have s_3 := g_3.size
            replace hw := hw.trans (below_of_grownBy g_3.g hw.size (by omega))
            replace fw := fw.y g_3 (by decide)
            replace f5 := f5.k g_3.g (ap_some (by omega))
            replace fn := fn.y g_3 (by decide)
            replace f := f.k g_3.g (ap_some (by omega))
            replace f10 := f10.k g_3.g (ap_some (by omega))
            replace f158 := f158.y g_3 (by decide)
            clear f_1
            refine wl_p (fun _ => o_assign rfl) ?_
            refine wl_nil ?_
            refine rk_seq ?_
            refine rk_seq ?_
            refine rk_region ?_
            refine wl_p (fun _ => o_faddr (s := 36) (i := 3) (off := 4) Try.underlying36 rfl Try.sizeOf3 rfl rfl rfl) ?_
            refine wl_r (o_loadbg Try.isAgg3 rfl f (by rfl)) ?_
            refine wl_p (fun _ => o_lt rfl rfl) ?_
            refine wl_p (fun _ => o_move rfl) ?_
            have bad : r = 6 → ∀ {W : World}, OwnEn w.heap.size W lo hi' A1 c1 L → Blk W g5 27 [.int .i64 K, .slice A1 L.length c1] → OwnW W w q A7 c7 L → w2.heap.size ≤ W.heap.size → Below w.heap.size w W → St w g5 K W A7 c7 L :=
              fun _ W h1 h2 h3 h4 h5 => ⟨A1, c1, lo, hi', q, h1, h2, h3, hq, by omega, by omega, hok, h5⟩
            refine wl_bool 164 rfl (fun h164 => ?_) (fun h164 => ?_) <;> try simp only [decide_eq_true_eq, decide_eq_false_iff_not, Bool.not_eq_true', Bool.not_eq_false', Bool.and_eq_true, Bool.and_eq_false_iff, Bool.or_eq_true, Bool.or_eq_false_iff] at h164
            · have hr6 : r = 6 := by rw [← hr]; exact netAt_none hok (.inl h164)
              refine wl_off ?_
              refine wl_off ?_
              refine wl_off ?_
              refine wl_off ?_
              refine wl_off ?_
              refine wl_p (fun _ => o_pick_t rfl rfl) ?_
              refine wl_nil ?_
              refine rk_true rfl ?_
              refine rk_seq ?_
              refine rk_seq ?_
              refine rk_region ?_
              refine wl_p (fun _ => o_move rfl) ?_
              refine wl_p (fun _ => o_ne rfl rfl) ?_
              refine wl_nil ?_
              refine rk_if rfl (fun h172 => absurd h172 (by omega)) (fun h172 => ?_)
              refine rk_skip ?_
              refine rk_exit rfl ?_
              exact rk_tof hj (Fr.le_of (by kernel_rfl) (by kernel_rfl) (by repeat' constructor)) ⟨A7, c7, L, rfl, bad hr6 fn f5 fw (by omega) hw⟩
            · refine wl_p (fun _ => o_faddr (s := 36) (i := 3) (off := 4) Try.underlying36 rfl Try.sizeOf3 rfl rfl rfl) ?_
              refine wl_r (o_loadbg Try.isAgg3 rfl f (by rfl)) ?_
              refine wl_p (fun _ => o_move rfl) ?_
              refine wl_p (fun _ => o_len (t := 25) Try.underlying25 rfl) ?_
              refine wl_p (fun _ => o_ge rfl rfl) ?_
              refine wl_p (fun _ => o_pick_f rfl rfl) ?_
              refine wl_nil ?_
              refine rk_if rfl (fun h170 => ?_) (fun h170 => ?_)
              · have hr6 : r = 6 := by rw [← hr]; exact netAt_none hok (.inr h170)
                refine rk_seq ?_
                refine rk_seq ?_
                refine rk_region ?_
                refine wl_p (fun _ => o_move rfl) ?_
                refine wl_p (fun _ => o_ne rfl rfl) ?_
                refine wl_nil ?_
                refine rk_if rfl (fun h172 => absurd h172 (by omega)) (fun h172 => ?_)
                refine rk_skip ?_
                refine rk_exit rfl ?_
                exact rk_tof hj (Fr.le_of (by kernel_rfl) (by kernel_rfl) (by repeat' constructor)) ⟨A7, c7, L, rfl, bad hr6 fn f5 fw (by omega) hw⟩
              · have hr0 : r = 0 := by rw [← hr]; exact netAt_ok hok (by omega) (by omega)
                obtain ⟨j, rfl⟩ : ∃ j : Nat, N = j := ⟨N.toNat, by omega⟩
                have hjl : j < L.length := by omega
                obtain ⟨rfl, rfl⟩ := (show r = 0 → k158 = K ∧ Q158 = cutI L j by assumption) hr0
                have fR := fw.rd hw
                have hcap := fw.cap
                refine rk_skip ?_
                refine rk_seq ?_
                refine rk_seq ?_
                refine rk_draw (id := 36) (none) [0, 1, 2, 4, 12, 20, 36, 100, 128, 384, 128, 128, 2176, 5248, 8320, 16512, 33408, 65664, 131072, 393216, 131072, 131072, 2228224, 5373952, 8519680, 16908288, 34209792, 67240064, 134348928, 268435456, 805306368, 1342177280, 268435456, 268435456, 8858370048, 21743271936, 34628173824, 68987912192, 137707388928, 277293826048, 550024249472, 1099511627908, 2199023255556] [0, 1, 3, 7, 15, 31, 63, 127, 255, 511, 255, 255, 2303, 7423, 15615, 31999, 65535, 131071, 262143, 524287, 262143, 262143, 2359295, 7602175, 15990783, 32767999, 67108863, 134217727, 268435455, 536870911, 1073741823, 2147483647, 536870911, 536870911, 9126805503, 30601641983, 64961380351, 133680857087, 271119810559, 549755813887, 1099511627775, 2199023255551, 4398046511103] 32 0 [(.p, 0), (.p, 1), (.p, 2), (.p, 3), (.r, 4), (.l, 5), (.p, 6), (.p, 7), (.p, 8), (.r, 9), (.p, 10), (.p, 11), (.r, 12), (.p, 13), (.p, 14), (.r, 15), (.p, 16), (.p, 17), (.p, 18), (.r, 19), (.p, 20), (.p, 21), (.r, 22), (.p, 23), (.p, 24), (.r, 25), (.p, 26), (.p, 27), (.p, 28), (.p, 29), (.r, 30), (.r, 31), (.p, 32), (.p, 33), (.r, 34), (.p, 35), (.p, 36), (.r, 37), (.r, 38), (.p, 39), (.p, 40), (.p, 41), (.p, 42)] (by kernel_rfl) (by kernel_rfl) (by kernel_rfl) (by kernel_rfl) (by kernel_rfl) ?_
                replace hw := hw.drew
                replace fR := fR.d
                replace f158 := f158.d
                replace f_2 := f_2.d
                replace f5 := f5.d
                replace f := f.d
                replace f10 := f10.d
                replace fn := fn.d
                replace fw := fw.d
                refine wl_p (fun _ => o_move rfl) ?_
                refine wl_p (fun _ => o_ne rfl rfl) ?_
                refine wl_p (fun _ => o_move rfl) ?_
                refine wl_know 175 false rfl (decide_eq_false (by omega)) ?_
                refine wl_p (fun _ => o_faddr (s := 36) (i := 0) (off := 0) Try.underlying36 rfl Try.sizeOf3 rfl rfl rfl) ?_
                refine wl_r (o_loadbg Try.isAgg3 rfl f (by rfl)) ?_
                refine wl_call rfl (C_PickR _ hk e43 w5) ?_
                rintro v178 w178 ⟨rfl, b178⟩
                simp only [drew_size] at b178
                have s178 := b178.size
                simp only [drew_size] at s178
                replace hw := hw.trans (b178.mono hw.size)
                replace fw := fw.u b178
                replace fn := fn.u b178
                replace f10 := f10.u b178
                replace f := f.u b178
                replace f5 := f5.u b178
                replace f_2 := f_2.u b178
                replace f158 := f158.u b178
                replace fR := fR.u b178
                refine wl_p (fun _ => o_eq rfl rfl) ?_
                refine wl_p (fun _ => o_move rfl) ?_
                refine wl_know 180 false rfl (decide_eq_false (by omega)) ?_
                refine wl_off ?_
                refine wl_off ?_
                refine wl_off ?_
                refine wl_off ?_
                refine wl_off ?_
                refine wl_off ?_
                refine wl_off ?_
                refine wl_off ?_
                refine wl_off ?_
                refine wl_off ?_
                refine wl_off ?_
                refine wl_off ?_
                refine wl_off ?_
                refine wl_off ?_
                refine wl_off ?_
                refine wl_off ?_
                refine wl_off ?_
                refine wl_off ?_
                refine wl_off ?_
                refine wl_off ?_
                refine wl_off ?_
                refine wl_off ?_
                refine wl_off ?_
                refine wl_off ?_
                refine wl_off ?_
                refine wl_off ?_
                refine wl_off ?_
                refine wl_off ?_
                refine wl_off ?_
                refine wl_off ?_
                refine wl_off ?_
                refine wl_off ?_
                refine wl_off ?_
                refine wl_p (fun _ => o_pick_f rfl rfl) ?_
                refine wl_p (fun _ => o_pick_f rfl rfl) ?_
                refine wl_nild ?_
                refine rk_false rfl ?_
                refine rk_skip ?_
                refine rk_drawoB (id := 38) (none) [0, 0, 0, 0, 8, 20, 34, 0, 0, 256, 512, 1152, 2112, 4097, 16383] [0, 0, 0, 0, 8, 28, 62, 0, 0, 256, 768, 1920, 4094, 8191, 16383] 12354 4162 [0, 2, 3, 4, 5, 7, 8, 9, 10, 11, 1, 6, 12, 13, 14] [(.s, 0), (.p, 2), (.p, 3), (.s, 4), (.p, 5), (.p, 7), (.p, 8), (.s, 9), (.p, 10), (.p, 11), (.c, 1), (.c, 6), (.c, 12), (.l, 13), (.p, 14)] (by kernel_rfl) (by kernel_rfl) (by kernel_rfl) (by kernel_rfl) (by kernel_rfl) ?_
                dsimp only [inOrder, nthOp]
                replace hw := hw.drew
                replace fR := fR.d
                replace f158 := f158.d
                replace f_2 := f_2.d
                replace f5 := f5.d
                replace f := f.d
                replace f10 := f10.d
                replace fn := fn.d
                replace fw := fw.d
                refine wl_s (fun _ hk => (o_loadag Try.isAgg27 Try.sizeOf27 rfl (f_2.u (below_of_ok hk (Nat.le_refl _) (fun _ e => by cases e))) (by rfl))) ?_
                refine wl_p (fun _ => o_move rfl) ?_
                refine wl_p (fun _ => o_faddr (s := 36) (i := 3) (off := 4) Try.underlying36 rfl Try.sizeOf3 rfl rfl rfl) ?_
                refine wl_s (fun _ hk => (o_loadbg Try.isAgg3 rfl (f.u (below_of_ok hk (Nat.le_refl _) (fun _ e => by cases e))) (by rfl))) ?_
                refine wl_p (fun _ => (o_slHiE (j) rfl rfl rfl (by omega))) ?_
                refine wl_p (fun _ => o_move rfl) ?_
                refine wl_p (fun _ => o_faddr (s := 36) (i := 3) (off := 4) Try.underlying36 rfl Try.sizeOf3 rfl rfl rfl) ?_
                refine wl_s (fun _ hk => (o_loadbg Try.isAgg3 rfl (f.u (below_of_ok hk (Nat.le_refl _) (fun _ e => by cases e))) (by rfl))) ?_
                refine wl_p (fun _ => o_add rfl rfl (by omega) (by omega)) ?_
                refine wl_p (fun _ => (o_slLoE (j + 1) rfl rfl (by omega) (by omega))) ?_
                refine wl_litW0 hw ?_
                rintro A217 w217 p217 f217 i217 i217_1 b217
                simp only [drew_size] at i217
                simp only [drew_size] at b217
                have qf217 := f217.cap
                have s217 := b217.size
                simp only [drew_size] at s217
                replace hw := hw.trans (b217.mono hw.size)
                replace fw := fw.u b217
                replace fn := fn.u b217
                replace f10 := f10.u b217
                replace f := f.u b217
                replace f5 := f5.u b217
                replace f_2 := f_2.u b217
                replace f158 := f158.u b217
                replace fR := fR.u b217
                have e1 : (L.take j).length = j := by rw [List.length_take]; omega
                have e2 : (L.drop (j + 1)).length = L.length - (j + 1) := List.length_drop
                have m1 := fw.takeT j (by omega)
                refine wl_appW rfl f217 (by rfl) rfl m1 (by omega) (by omega) (by omega) ?_ (hq := .inr (.inr (f217.ge_ (by omega))))
                rintro A222 c222 w222 p222 f222 i222 i222_1 i222_2 g222 b222
                have qf222 := f222.cap
                have s222 := g222.size
                replace hw := hw.trans (b222.mono (by omega))
                replace f158 := f158.q g222 (f217.ap (by omega)) (by decide)
                replace f_2 := f_2.y g222 (by decide)
                replace f5 := f5.y g222 (by decide)
                replace f := f.y g222 (by decide)
                replace f10 := f10.k g222.g (f217.ap (by omega))
                replace fn := fn.q g222 (f217.ap (by omega)) (by decide)
                replace fw := fw.q g222 (f217.ap (by omega)) (by decide)
                clear m1
                clear fR
                clear f217
                have m2 := fw.dropT (j + 1) (by omega)
                refine wl_appW rfl f222 rfl rfl m2 (by omega) (by simp; omega) (by omega) ?_ (hq := .inr (.inr (f222.ge_ (by omega))))
                rintro A228 c228 w228 p228 f228 i228 i228_1 i228_2 g228 b228
                have qf228 := f228.cap
                have s228 := g228.size
                replace hw := hw.trans (b228.mono (by omega))
                replace fw := fw.q g228 (f222.ap (by omega)) (by decide)
                replace fn := fn.q g228 (f222.ap (by omega)) (by decide)
                replace f10 := f10.k g228.g (f222.ap (by omega))
                replace f := f.y g228 (by decide)
                replace f5 := f5.y g228 (by decide)
                replace f_2 := f_2.y g228 (by decide)
                replace f158 := f158.q g228 (f222.ap (by omega)) (by decide)
                clear m2
                clear f222
                refine wl_storega Try.sizeOf27 rfl rfl (by rfl) (oneCell_of (by rfl)) f5 (by rfl) ?_
                rintro w_5 f_1 g_4 e_4
                have s_4 := g_4.size
                replace hw := hw.trans (below_of_grownBy g_4.g hw.size (by omega))
                replace f158 := f158.y g_4 (by decide)
                replace f_2 := f_2.k g_4.g (ap_some (by omega))
                replace f := f.k g_4.g (ap_some (by omega))
                replace f10 := f10.k g_4.g (ap_some (by omega))
                replace fn := fn.y g_4 (by decide)
                replace fw := fw.y g_4 (by decide)
                replace f228 := f228.y g_4 (by decide)
                clear f5
                refine wl_p (fun _ => o_assign rfl) ?_
                refine wl_nild ?_
                refine rk_blk ?_
                rw [show [] ++ L.take j ++ L.drop (j + 1) = cutI L j from rfl] at f228 ⊢
                exact rk_tof hj (Fr.le_of (by kernel_rfl) (by kernel_rfl) (by repeat' constructor)) ⟨A228, c228, cutI L j, rfl, A158, c158, _, _, p228, f158.mono (by omega), f_1, f228, by omega, by omega, by omega, netOk_cut hok, hw⟩
          · obtain ⟨r2, hr2⟩ : ∃ r2 : Int, (if netAt K L N ≠ 0 then netAt K L N else if 512 ≤ L.length then 7 else 0) = r2 := ⟨_, rfl⟩
            refine rk_seq ?_
            refine rk_region ?_
            refine wl_p (fun _ => o_eq rfl rfl) ?_
            refine wl_p (fun _ => o_assign rfl) ?_
            refine wl_nil ?_
            refine rk_if rfl (fun h229 => ?_) (fun h229 => ?_)
            · refine rk_seq ?_
              refine rk_region ?_
              refine wl_r (o_loadag Try.isAgg27 Try.sizeOf27 rfl f5 (by rfl)) ?_
              refine wl_p (fun _ => o_faddr (s := 36) (i := 3) (off := 4) Try.underlying36 rfl Try.sizeOf3 rfl rfl rfl) ?_
              refine wl_r (o_loadbg Try.isAgg3 rfl f (by rfl)) ?_
              refine wl_call rfl (C_Twice _ fn.to_REn hr2 rfl (by omega) wN) ?_
              rintro v235 w235 ⟨k235, ⟨A235, ⟨c235, ⟨Q235, ⟨rfl, ⟨f235, ⟨i235, ⟨i235_1, b235⟩⟩⟩⟩⟩⟩⟩⟩
              have qf235 := f235.cap
              have s235 := b235.size
              replace hw := hw.trans (b235.mono hw.size)
              replace f := f.u b235
              replace fn := fn.u b235
              replace f5 := f5.u b235
              replace fw := fw.u b235
              refine wl_p (fun _ => o_move rfl) ?_
              refine wl_p (fun _ => o_ext20 rfl) ?_
              refine wl_p (fun _ => o_ext21 rfl) ?_
              refine wl_allocg [_, _] Try.zeroValue27 (by rfl) ?_
              rintro g13 w13 f13 b13 i13 i13_1
              have s13 := b13.size
              replace hw := hw.trans (b13.mono hw.size)
              replace fw := fw.u b13
              replace f5 := f5.u b13
              replace fn := fn.u b13
              replace f := f.u b13
              replace f235 := f235.u b13
              refine wl_storega Try.sizeOf27 rfl rfl (by rfl) (oneCell_of (by rfl)) f13 (by rfl) ?_
              rintro w_3 f_1 g_2 e_2
              have s_2 := g_2.size
              replace hw := hw.trans (below_of_grownBy g_2.g hw.size (by omega))
              replace f235 := f235.y g_2 (by decide)
              replace f := f.k g_2.g (ap_some (by omega))
              replace fn := fn.y g_2 (by decide)
              replace f5 := f5.k g_2.g (ap_some (by omega))
              replace fw := fw.y g_2 (by decide)
              clear f13
              refine wl_p (fun _ => o_assign rfl) ?_
              refine wl_nil ?_
              refine rk_seq ?_
              refine rk_seq ?_
              refine rk_region ?_
              refine wl_p (fun _ => o_faddr (s := 36) (i := 3) (off := 4) Try.underlying36 rfl Try.sizeOf3 rfl rfl rfl) ?_
              refine wl_r (o_loadbg Try.isAgg3 rfl f (by rfl)) ?_
              refine wl_p (fun _ => o_lt rfl rfl) ?_
              refine wl_p (fun _ => o_move rfl) ?_
              have bad : ∀ {W : World}, OwnEn w.heap.size W lo hi' A1 c1 L → Blk W g5 27 [.int .i64 K, .slice A1 L.length c1] → OwnW W w q A7 c7 L → w2.heap.size ≤ W.heap.size → Below w.heap.size w W → St w g5 K W A7 c7 L :=
                fun {W} h1 h2 h3 h4 h5 => ⟨A1, c1, lo, hi', q, h1, h2, h3, hq, by omega, by omega, hok, h5⟩
              refine wl_bool 241 rfl (fun h241 => ?_) (fun h241 => ?_) <;> try simp only [decide_eq_true_eq, decide_eq_false_iff_not, Bool.not_eq_true', Bool.not_eq_false', Bool.and_eq_true, Bool.and_eq_false_iff, Bool.or_eq_true, Bool.or_eq_false_iff] at h241
              · have hr6 : r2 = 6 := by rw [← hr2, netAt_none hok (.inl h241)]; rfl
                refine wl_off ?_
                refine wl_off ?_
                refine wl_off ?_
                refine wl_off ?_
                refine wl_off ?_
                refine wl_p (fun _ => o_pick_t rfl rfl) ?_
                refine wl_nil ?_
                refine rk_true rfl ?_
                refine rk_seq ?_
                refine rk_seq ?_
                refine rk_region ?_
                refine wl_p (fun _ => o_move rfl) ?_
                refine wl_p (fun _ => o_ne rfl rfl) ?_
                refine wl_nil ?_
                refine rk_if rfl (fun h249 => absurd h249 (by omega)) (fun h249 => ?_)
                refine rk_skip ?_
                refine rk_exit rfl ?_
                exact rk_tof hj (Fr.le_of (by kernel_rfl) (by kernel_rfl) (by repeat' constructor)) ⟨A7, c7, L, rfl, bad fn f5 fw (by omega) hw⟩
              · refine wl_p (fun _ => o_faddr (s := 36) (i := 3) (off := 4) Try.underlying36 rfl Try.sizeOf3 rfl rfl rfl) ?_
                refine wl_r (o_loadbg Try.isAgg3 rfl f (by rfl)) ?_
                refine wl_p (fun _ => o_move rfl) ?_
                refine wl_p (fun _ => o_len (t := 25) Try.underlying25 rfl) ?_
                refine wl_p (fun _ => o_ge rfl rfl) ?_
                refine wl_p (fun _ => o_pick_f rfl rfl) ?_
                refine wl_nil ?_
                refine rk_if rfl (fun h247 => ?_) (fun h247 => ?_)
                · have hr6 : r2 = 6 := by rw [← hr2, netAt_none hok (.inr h247)]; rfl
                  refine rk_seq ?_
                  refine rk_seq ?_
                  refine rk_region ?_
                  refine wl_p (fun _ => o_move rfl) ?_
                  refine wl_p (fun _ => o_ne rfl rfl) ?_
                  refine wl_nil ?_
                  refine rk_if rfl (fun h249 => absurd h249 (by omega)) (fun h249 => ?_)
                  refine rk_skip ?_
                  refine rk_exit rfl ?_
                  exact rk_tof hj (Fr.le_of (by kernel_rfl) (by kernel_rfl) (by repeat' constructor)) ⟨A7, c7, L, rfl, bad fn f5 fw (by omega) hw⟩
                · have hr0 : r2 = if 512 ≤ L.length then 7 else 0 := by rw [← hr2, netAt_ok hok (by omega) (by omega), if_neg (by decide)]
                  obtain ⟨j, rfl⟩ : ∃ j : Nat, N = j := ⟨N.toNat, by omega⟩
                  have hjl : j < L.length := by omega
                  refine rk_skip ?_
                  refine rk_seq ?_
                  refine rk_seq ?_
                  refine rk_region ?_
                  refine wl_p (fun _ => o_move rfl) ?_
                  refine wl_p (fun _ => o_ne rfl rfl) ?_
                  refine wl_nil ?_
                  refine rk_if rfl (fun h251 => ?_) (fun h251 => ?_)
                  · have h512 : 512 ≤ L.length := by
                      rcases Nat.lt_or_ge L.length 512 with h | h
                      · rw [if_neg (by omega)] at hr0; omega
                      · exact h
                    have hr7 : r2 = 7 := by rw [hr0, if_pos h512]
                    refine rk_seq ?_
                    refine rk_seq ?_
                    refine rk_region ?_
                    refine wl_p (fun _ => o_move rfl) ?_
                    refine wl_p (fun _ => o_ne rfl rfl) ?_
                    refine wl_p (fun _ => o_move rfl) ?_
                    refine wl_know 254 false rfl (decide_eq_false (by omega)) ?_
                    refine wl_p (fun _ => o_move rfl) ?_
                    refine wl_p (fun _ => o_len (t := 25) Try.underlying25 rfl) ?_
                    refine wl_p (fun _ => o_lt rfl rfl) ?_
                    refine wl_p (fun _ => o_pick_f rfl rfl) ?_
                    refine wl_nil ?_
                    refine rk_if rfl (fun h258 => absurd h258 (by omega)) (fun h258 => ?_)
                    refine rk_skip ?_
                    refine rk_exit rfl ?_
                    exact rk_tof hj (Fr.le_of (by kernel_rfl) (by kernel_rfl) (by repeat' constructor)) ⟨A7, c7, L, rfl, bad fn f5 fw (by omega) hw⟩
                  · have h512 : L.length < 512 := by
                      rcases Nat.lt_or_ge L.length 512 with h | h
                      · exact h
                      · rw [if_pos h] at hr0; omega
                    obtain ⟨rfl, _, rfl⟩ := (show r2 = 0 → k235 = K ∧ ∃ h : j < L.length, Q235 = L ++ [L[j]] by assumption) (by omega)
                    obtain ⟨A9, c9, ce, rd9, b1, b2, wf1, wf2⟩ := fw.elem hjl
                    have hg13 := f_1.lt
                    refine rk_skip ?_
                    refine rk_drawoB (id := 47) (none) [0, 0, 0, 6, 0, 0, 32, 80, 128, 256, 520, 1025, 4095] [0, 0, 0, 6, 0, 0, 32, 112, 240, 496, 1022, 2047, 4095] 3594 1546 [0, 2, 4, 5, 6, 7, 8] [(.s, 0), (.p, 2), (.p, 4), (.p, 5), (.s, 6), (.p, 7), (.s, 8), (.f 501 3594 1546, 6)] (by kernel_rfl) (by kernel_rfl) (by kernel_rfl) (by kernel_rfl) (by kernel_rfl) ?_
                    dsimp only [inOrder, nthOp]
                    replace hw := hw.drew
                    replace ce := ce.d
                    replace f235 := f235.d
                    replace f_1 := f_1.d
                    replace f5 := f5.d
                    replace f := f.d
                    replace fw := fw.d
                    replace fn := fn.d
                    refine wl_s (fun _ hk => (o_loadag Try.isAgg27 Try.sizeOf27 rfl (f_1.u (below_of_ok hk (Nat.le_refl _) (fun _ e => by cases e))) (by rfl))) ?_
                    refine wl_p (fun _ => o_move rfl) ?_
                    refine wl_p (fun _ => o_move rfl) ?_
                    refine wl_p (fun _ => o_faddr (s := 36) (i := 3) (off := 4) Try.underlying36 rfl Try.sizeOf3 rfl rfl rfl) ?_
                    refine wl_s (fun _ hk => (o_loadbg Try.isAgg3 rfl (f.u (below_of_ok hk (Nat.le_refl _) (fun _ e => by cases e))) (by rfl))) ?_
                    refine wl_p (fun _ => (o_iaddrA (j) Try.underlying25 Try.sizeOf38 rfl rfl rfl (fw.some_ (by omega)) (by omega))) ?_
                    refine wl_s (fun _ hk => (o_ldCE rfl ce (below_of_ok hk (Nat.le_refl _) (fun _ e => by cases e)))) ?_
                    refine wl_forkf (m := 501) (L := 3594) (C := 1546) (n := 6) (k1 := 1) (k2 := 9) (fun fb fr W => ∃ A262 c262 p262 A268 p268, fr = [(262, .slice A262 L.length c262), (268, .slice A268 1 1)] ++ fb ∧ OwnW W w p262 A262 c262 L ∧ OwnW W w p268 A268 1 [L[j]] ∧ p262 ≠ p268 ∧ w_3.heap.size ≤ p262 ∧ w_3.heap.size ≤ p268 ∧ p262 ≤ W.heap.size ∧ p268 ≤ W.heap.size ∧ OwnEn w46.heap.size W w46.heap.size w235.heap.size A235 c235 (L ++ [L[j]]) ∧ Blk W g5 27 [.int .i64 k235, .slice A1 L.length c1] ∧ w_3.heap.size ≤ W.heap.size ∧ Below w.heap.size w W) [0, 0, 0, 6, 0, 0, 32, 80, 128, 256, 520, 1025, 4095] [0, 0, 0, 6, 0, 0, 32, 112, 240, 496, 1022, 2047, 4095] [1] [9, 1, 3, 10, 11, 12] [10, 11, 12] [(.f 503 3594 1546, 5)] [(.c, 1), (.c, 3), (.c, 10), (.l, 11), (.p, 12)] [(.c, 10), (.l, 11), (.p, 12)] (by kernel_rfl) (by kernel_rfl) (by kernel_rfl) (by kernel_rfl) (by kernel_rfl) ?_ (fun hj => ?_) (fun hj => ?_) <;> dsimp only [inOrder, nthOp]
                    · clear fw fn f5 f f_1 f235 ce hw
                      rintro fr W ⟨A262, c262, p262, A268, p268, rfl, f262, f268, hne, i1, i2, i3, i4, f235, f5, i5, hw⟩
                      have hg5' := f5.lt
                      first | refine rk_frame (by simp only [List.cons_append, List.nil_append, List.drop_succ_cons, List.drop_zero]; rfl) ?_ | refine wl_frame (by simp only [List.cons_append, List.nil_append, List.drop_succ_cons, List.drop_zero]; rfl) ?_
                      refine wl_appW rfl f262 rfl rfl f268.to_RWT (by rfl) (by simp; omega) (by omega) ?_ (hq := .inr (.inr (f262.ge_ (by omega))))
                      rintro A269 c269 w269 p269 f269 i269 i269_1 i269_2 g269 b269
                      have qf269 := f269.cap
                      have s269 := g269.size
                      replace hw := hw.trans (b269.mono (by omega))
                      replace f5 := f5.y g269 (by decide)
                      replace f235 := f235.q g269 (f262.ap (by omega)) (by decide)
                      replace f268 := f268.q g269 (f262.ap (by omega)) (by decide)
                      clear f262
                      refine wl_storega Try.sizeOf27 rfl rfl (by rfl) (oneCell_of (by rfl)) f5 (by rfl) ?_
                      rintro w_4 f g_3 e_3
                      have s_3 := g_3.size
                      replace hw := hw.trans (below_of_grownBy g_3.g hw.size (by omega))
                      replace f268 := f268.y g_3 (by decide)
                      replace f235 := f235.y g_3 (by decide)
                      replace f269 := f269.y g_3 (by decide)
                      clear f5
                      refine wl_p (fun _ => o_assign rfl) ?_
                      refine wl_nild ?_
                      refine rk_blk ?_
                      exact rk_tof hj (Fr.le_of (by kernel_rfl) (by kernel_rfl) (by repeat' constructor)) ⟨A269, c269, L ++ [L[j]], rfl, A235, c235, _, _, p269, f235.mono (by omega), f, f269, by omega, by omega, by omega, netOk_twice hok (List.getElem_mem hjl) h512, hw⟩
                    · refine wl_litW0 hw ?_
                      rintro A260 w260 p260 f260 i260 i260_1 b260
                      simp only [drew_size] at i260
                      simp only [drew_size] at b260
                      have qf260 := f260.cap
                      have s260 := b260.size
                      simp only [drew_size] at s260
                      replace hw := hw.trans (b260.mono hw.size)
                      replace fn := fn.u b260
                      replace fw := fw.u b260
                      replace f := f.u b260
                      replace f5 := f5.u b260
                      replace f_1 := f_1.u b260
                      replace f235 := f235.u b260
                      replace ce := ce.u b260
                      refine wl_fork2j (m := 503) (L := 3594) (C := 1546) (n := 5) (k1 := 3) (k2 := 9) _ [0, 0, 0, 6, 0, 0, 32, 80, 128, 256, 520, 1025, 4095] [0, 0, 0, 6, 0, 0, 32, 112, 240, 496, 1022, 2047, 4095] [3, 9, 10, 11, 12] [9, 3, 10, 11, 12] [10, 11, 12] [(.c, 9), (.c, 10), (.l, 11), (.p, 12)] [(.c, 3), (.c, 10), (.l, 11), (.p, 12)] [(.c, 10), (.l, 11), (.p, 12)] (by kernel_rfl) (by kernel_rfl) (by kernel_rfl) (by kernel_rfl) (by kernel_rfl) hj (fun hj => ?_) (fun hj => ?_) <;> dsimp only [inOrder, nthOp]
                      · refine wl_appW rfl f260 (by rfl) rfl fw.to_RWT rfl (by omega) (by omega) ?_ (hq := .inr (.inr (f260.ge_ (by omega))))
                        rintro A262 c262 w262 p262 f262 i262 i262_1 i262_2 g262 b262
                        have qf262 := f262.cap
                        have s262 := g262.size
                        replace hw := hw.trans (b262.mono (by omega))
                        replace f235 := f235.q g262 (f260.ap (by omega)) (by decide)
                        replace f_1 := f_1.y g262 (by decide)
                        replace f5 := f5.y g262 (by decide)
                        replace f := f.y g262 (by decide)
                        replace fw := fw.q g262 (f260.ap (by omega)) (by decide)
                        replace fn := fn.q g262 (f260.ap (by omega)) (by decide)
                        clear ce
                        clear f260
                        refine wl_litW1 (by rfl) rfl rd9 rfl (by omega) (by omega) wf1 wf2 (by rfl) ?_
                        rintro A268 w268 p268 f268 i268 i268_1 b268
                        have qf268 := f268.cap
                        have s268 := b268.size
                        replace hw := hw.trans (b268.mono hw.size)
                        replace fn := fn.u b268
                        replace fw := fw.u b268
                        replace f := f.u b268
                        replace f5 := f5.u b268
                        replace f_1 := f_1.u b268
                        replace f235 := f235.u b268
                        replace f262 := f262.u b268
                        exact wl_tof hj (Fr.le_of (by kernel_rfl) (by kernel_rfl) (by repeat' constructor)) ⟨_, _, p262, _, p268, rfl, f262, f268, by omega, by omega, by omega, by omega, by omega, f235, f5, by omega, hw⟩
                      · refine wl_litW1 (by rfl) rfl rd9 rfl (by omega) (by omega) wf1 wf2 (by rfl) ?_
                        rintro A268 w268 p268 f268 i268 i268_1 b268
                        have qf268 := f268.cap
                        have s268 := b268.size
                        replace hw := hw.trans (b268.mono hw.size)
                        replace ce := ce.u b268
                        replace f235 := f235.u b268
                        replace f_1 := f_1.u b268
                        replace f5 := f5.u b268
                        replace f := f.u b268
                        replace fw := fw.u b268
                        replace fn := fn.u b268
                        replace f260 := f260.u b268
                        refine wl_appW rfl f260 (by rfl) rfl fw.to_RWT rfl (by omega) (by omega) ?_ (hq := .inr (.inr (f260.ge_ (by omega))))
                        rintro A262 c262 w262 p262 f262 i262 i262_1 i262_2 g262 b262
                        have qf262 := f262.cap
                        have s262 := g262.size
                        replace hw := hw.trans (b262.mono (by omega))
                        replace fn := fn.q g262 (f260.ap (by omega)) (by decide)
                        replace fw := fw.q g262 (f260.ap (by omega)) (by decide)
                        replace f := f.y g262 (by decide)
                        replace f5 := f5.y g262 (by decide)
                        replace f_1 := f_1.y g262 (by decide)
                        replace f235 := f235.q g262 (f260.ap (by omega)) (by decide)
                        replace f268 := f268.q g262 (f260.ap (by omega)) (by decide)
                        clear f260
                        clear ce
                        exact wl_tof hj (Fr.le_of (by kernel_rfl) (by kernel_rfl) (by repeat' constructor)) ⟨_, _, p262, _, p268, rfl, f262, f268, by omega, by omega, by omega, by omega, by omega, f235, f5, by omega, hw⟩
                    · refine wl_litW1 (by rfl) rfl rd9 rfl (by omega) (by omega) wf1 wf2 (by rfl) ?_
                      rintro A268 w268 p268 f268 i268 i268_1 b268
                      simp only [drew_size] at i268
                      simp only [drew_size] at b268
                      have qf268 := f268.cap
                      have s268 := b268.size
                      simp only [drew_size] at s268
                      replace hw := hw.trans (b268.mono hw.size)
                      replace fn := fn.u b268
                      replace fw := fw.u b268
                      replace f := f.u b268
                      replace f5 := f5.u b268
                      replace f_1 := f_1.u b268
                      replace f235 := f235.u b268
                      replace ce := ce.u b268
                      refine wl_litW0 hw ?_
                      rintro A260 w260 p260 f260 i260 i260_1 b260
                      have qf260 := f260.cap
                      have s260 := b260.size
                      replace hw := hw.trans (b260.mono hw.size)
                      replace ce := ce.u b260
                      replace f235 := f235.u b260
                      replace f_1 := f_1.u b260
                      replace f5 := f5.u b260
                      replace f := f.u b260
                      replace fw := fw.u b260
                      replace fn := fn.u b260
                      replace f268 := f268.u b260
                      refine wl_appW rfl f260 (by rfl) rfl fw.to_RWT rfl (by omega) (by omega) ?_ (hq := .inr (.inr (f260.ge_ (by omega))))
                      rintro A262 c262 w262 p262 f262 i262 i262_1 i262_2 g262 b262
                      have qf262 := f262.cap
                      have s262 := g262.size
                      replace hw := hw.trans (b262.mono (by omega))
                      replace f268 := f268.q g262 (f260.ap (by omega)) (by decide)
                      replace fn := fn.q g262 (f260.ap (by omega)) (by decide)
                      replace fw := fw.q g262 (f260.ap (by omega)) (by decide)
                      replace f := f.y g262 (by decide)
                      replace f5 := f5.y g262 (by decide)
                      replace f_1 := f_1.y g262 (by decide)
                      replace f235 := f235.q g262 (f260.ap (by omega)) (by decide)
                      clear ce
                      clear f260
                      exact wl_tof hj (Fr.le_of (by kernel_rfl) (by kernel_rfl) (by repeat' constructor)) ⟨_, _, p262, _, p268, rfl, f262, f268, by omega, by omega, by omega, by omega, by omega, f235, f5, by omega, hw⟩
            · obtain ⟨u, hu⟩ : ∃ u : Int, acts[i].2.1 = u := ⟨_, rfl⟩
              obtain ⟨T, hT⟩ : ∃ T : Int, acts[i].2.2.1.1 = T := ⟨_, rfl⟩
              obtain ⟨raw, hraw⟩ : ∃ raw : By, acts[i].2.2.1.2 = raw := ⟨_, rfl⟩
              have wu : (Lit.int .i64 u).wf = true := hu ▸ (show (Lit.int .i64 acts[i].2.1).wf = true by assumption)
              have wT : (Lit.int .i64 T).wf = true := hT ▸ (show (Lit.int .i64 acts[i].2.2.1.1).wf = true by assumption)
              have hcr : raw.length ≤ c143 := hraw ▸ (show acts[i].2.2.1.2.length ≤ c143 by assumption)
              have hcm : c143 ≤ maxLen := by assumption
              rw [hu, hT, hraw] at f
              rw [hraw] at f43 ha2
              have hg9 := f.lt
              have hmr : raw.length ≤ maxLen := by omega
              obtain ⟨s, hs⟩ : ∃ s : Int, putErr K L u T raw = s := ⟨_, rfl⟩
              refine rk_seq ?_
              refine rk_drawo (id := 14) (none) [0, 0, 2, 0, 8, 16, 0, 64, 128, 256, 544, 1541, 2048, 4096, 4096, 4096, 0, 81919, 229375, 524287] [0, 0, 2, 0, 8, 24, 0, 64, 192, 448, 1016, 2047, 4095, 8191, 8191, 8191, 0, 81919, 229375, 524287] 199168 66048 [0, 1, 2, 3, 4, 5, 6, 7, 8] [(.s, 0), (.p, 1), (.s, 2), (.p, 3), (.p, 4), (.s, 5), (.p, 6), (.p, 7), (.s, 8), (.f 511 199168 66048, 11)] (by kernel_rfl) (by kernel_rfl) (by kernel_rfl) (by kernel_rfl) (by kernel_rfl) ?_
              dsimp only [inOrder, nthOp]
              replace hw := hw.drew
              replace f := f.d
              replace fn := fn.d
              replace f5 := f5.d
              replace fw := fw.d
              refine wl_s (fun _ hk => (o_loadag Try.isAgg27 Try.sizeOf27 rfl (f5.u (below_of_grown_none hk)) (by rfl))) ?_
              refine wl_p (fun _ => o_faddr (s := 36) (i := 1) (off := 1) Try.underlying36 rfl Try.sizeOf3 rfl rfl rfl) ?_
              refine wl_s (fun _ hk => (o_loadbg Try.isAgg3 rfl (f.u (below_of_grown_none hk)) (by rfl))) ?_
              refine wl_p (fun _ => o_faddr (s := 36) (i := 2) (off := 2) Try.underlying36 rfl Try.sizeOf34 rfl rfl rfl) ?_
              refine wl_p (fun _ => o_faddr (s := 34) (i := 0) (off := 0) Try.underlying34 rfl Try.sizeOf3 rfl rfl rfl) ?_
              refine wl_s (fun _ hk => (o_loadbg Try.isAgg3 rfl (f.u (below_of_grown_none hk)) (by rfl))) ?_
              refine wl_p (fun _ => o_faddr (s := 36) (i := 2) (off := 2) Try.underlying36 rfl Try.sizeOf34 rfl rfl rfl) ?_
              refine wl_p (fun _ => o_faddr (s := 34) (i := 1) (off := 1) Try.underlying34 rfl Try.sizeOf32 rfl rfl rfl) ?_
              refine wl_s (fun _ hk => (o_loadbg Try.isAgg32 rfl (f.u (below_of_grown_none hk)) (by rfl))) ?_
              refine wl_forkf (m := 511) (L := 199168) (C := 66048) (n := 11) (k1 := 9) (k2 := 16) (fun fb fr W => ∃ (g15 : Nat) (A' : Option Addr) (c' : Nat) (k' : Int) (Q : List En) (x : Int) (lo2 hi2 : Nat), fr = [(15, .pointer (some ⟨g15, 0, none⟩)), (60, .agg #[.int .i64 k', .slice A' (List.length Q) c']), (61, .int .i64 x), (62, .int .i64 s)] ++ fb ∧ Blk W g15 27 [.int .i64 0, .slice none 0 0] ∧ OwnEn w.heap.size W lo2 hi2 A' c' Q ∧ (s = 0 → k' = K ∧ Q = L ++ putMore K u T raw ∧ x = (putMore K u T raw).length) ∧ OwnEn w.heap.size W lo hi' A1 c1 L ∧ Blk W g5 27 [.int .i64 K, .slice A1 L.length c1] ∧ Blk W g9 36 [.int .i64 acts[i].1, .int .i64 u, .int .i64 T, .slice A143 raw.length c143, .int .i64 N] ∧ OwnW W w q A7 c7 L ∧ w46.heap.size ≤ lo2 ∧ lo2 ≤ hi2 ∧ hi2 ≤ W.heap.size ∧ w46.heap.size ≤ g15 ∧ Below w.heap.size w W) [0, 0, 2, 0, 8, 16, 0, 64, 128, 256, 544, 1541, 2048, 4096, 4096, 4096, 0, 81919, 229375, 524287] [0, 0, 2, 0, 8, 24, 0, 64, 192, 448, 1016, 2047, 4095, 8191, 8191, 8191, 0, 81919, 229375, 524287] [9, 10] [16, 9, 10, 11, 12, 13, 14, 15, 17, 18, 19] [17, 18, 19] [(.p, 10), (.f 2047 199168 66048, 9)] [(.c, 9), (.p, 10), (.l, 11), (.p, 12), (.p, 13), (.p, 14), (.p, 15), (.l, 17), (.p, 18), (.p, 19)] [(.l, 17), (.p, 18), (.p, 19)] (by kernel_rfl) (by kernel_rfl) (by kernel_rfl) (by kernel_rfl) (by kernel_rfl) ?_ (fun hj => ?_) (fun hj => ?_) <;> dsimp only [inOrder, nthOp]
              · clear fw fn f5 f hw
                rintro fr W ⟨g15, A', c', k', Q, x, lo2, hi2, rfl, f15, fq, himp, fn, f5, f, fw, i1, i2, i3, i4, hw⟩
                have shw := hw.size
                have hg5' := f5.lt
                have hg9' := f.lt
                first | refine rk_frame (by simp only [List.cons_append, List.nil_append, List.drop_succ_cons, List.drop_zero]; rfl) ?_ | refine wl_frame (by simp only [List.cons_append, List.nil_append, List.drop_succ_cons, List.drop_zero]; rfl) ?_
                refine wl_storega Try.sizeOf27 rfl rfl (by rfl) (oneCell_of (by rfl)) f15 (by rfl) ?_
                rintro w_3 f_1 g_2 e_2
                have s_2 := g_2.size
                replace hw := hw.trans (below_of_grownBy g_2.g hw.size (by omega))
                replace fw := fw.y g_2 (by decide)
                replace f := f.k g_2.g (ap_some (by omega))
                replace f5 := f5.k g_2.g (ap_some (by omega))
                replace fn := fn.y g_2 (by decide)
                replace fq := fq.y g_2 (by decide)
                clear f15
                refine wl_p (fun _ => o_assign rfl) ?_
                refine wl_p (fun _ => o_assign rfl) ?_
                refine wl_nild ?_
                refine rk_seq ?_
                refine rk_region ?_
                refine wl_p (fun _ => o_move rfl) ?_
                refine wl_p (fun _ => o_eq rfl rfl) ?_
                refine wl_nil ?_
                refine rk_if rfl (fun h64 => ?_) (fun h64 => ?_)
                · obtain ⟨rfl, rfl, rfl⟩ := himp (by omega)
                  obtain ⟨z1, z2, z3, z4, z5, z6⟩ := putErr_zero (hs.trans (by omega))
                  have z2' := of_decide_eq_true z2
                  have z4' : -1 ≤ T ∧ T < k' := by
                    rcases z4 with z4 | z4
                    · omega
                    · have := of_decide_eq_true z4; omega
                  have hput : netOk k' (L ++ putMore k' u T raw) = true := netOk_put (hs.trans (by omega))
                  obtain ⟨M, hM⟩ : ∃ M, putMore k' u T raw = M := ⟨_, rfl⟩
                  rw [hM] at f_1 fq hput z6 ⊢
                  refine rk_seq ?_
                  refine rk_region ?_
                  refine wl_p (fun _ => o_assign rfl) ?_
                  refine wl_nil ?_
                  refine rk_seq ?_
                  refine rk_seq ?_
                  refine rk_region ?_
                  refine wl_p (fun _ => o_assign rfl) ?_
                  refine wl_nil ?_
                  refine rk_block ?_
                  have z6' : L.length + M.length ≤ 512 := z6
                  refine rk_joinf (fun fb fr W2 => ∃ A8 c8 q8, fr = [(18, .int .i64 (M.length : Int)), (7, .slice A8 (L ++ M).length c8)] ++ fb.drop 2 ∧ OwnW W2 w q8 A8 c8 (L ++ M) ∧ w.heap.size ≤ q8 ∧ q8 ≤ W2.heap.size ∧ OwnEn w.heap.size W2 lo2 hi2 A' c' (L ++ M) ∧ Blk W2 g15 27 [.int .i64 k', .slice A' (L ++ M).length c'] ∧ Blk W2 g5 27 [.int .i64 k', .slice A1 L.length c1] ∧ Blk W2 g9 36 [.int .i64 acts[i].1, .int .i64 u, .int .i64 T, .slice A143 raw.length c143, .int .i64 N] ∧ w_3.heap.size ≤ W2.heap.size ∧ Below w.heap.size w W2) ?_ (fun ks hj2 => ?_)
                  rotate_left
                  · refine rk_loopf (fun fb m fr W2 => ∃ (j : Nat) (v mv : Int) (A8 : Option Addr) (c8 q8 : Nat) (L8 : List En), fr = [(19, .int .i64 v), (18, .int .i64 mv), (7, .slice A8 L8.length c8)] ++ fb.drop 2 ∧ v = j ∧ (j : Int) ≤ k' ∧ m = (k' - j).toNat ∧ L8 = L ++ putMore j u T raw ∧ mv = (putMore j u T raw).length ∧ mv ≤ j ∧ OwnW W2 w q8 A8 c8 L8 ∧ (q8 + 1 ≤ lo2 ∨ hi2 ≤ q8) ∧ w.heap.size ≤ q8 ∧ q8 ≤ W2.heap.size ∧ OwnEn w.heap.size W2 lo2 hi2 A' c' (L ++ M) ∧ Blk W2 g15 27 [.int .i64 k', .slice A' (L ++ M).length c'] ∧ Blk W2 g5 27 [.int .i64 k', .slice A1 L.length c1] ∧ Blk W2 g9 36 [.int .i64 acts[i].1, .int .i64 u, .int .i64 T, .slice A143 raw.length c143, .int .i64 N] ∧ w_3.heap.size ≤ W2.heap.size ∧ Below w.heap.size w W2) (n := k'.toNat) (Fr.le_of (by kernel_rfl) (by kernel_rfl) (by repeat' constructor)) ⟨0, _, _, A7, c7, q, L, rfl, rfl, by omega, by simp, by simp [putMore], by simp [putMore], by omega, fw, .inl (by omega), hq, by omega, fq, f_1, f5, f, Nat.le_refl _, hw⟩ ?_
                    clear hw fw fq f_1 f5 f fn
                    rintro m fr W2 ⟨j, v, mv, A8, c8, q8, L8, rfl, rfl, hjk, rfl, hL8, hmv, hmvj, fw, hq8, hq9, hq10, fq, f15, f5, f, hsz, hw⟩
                    have shw := hw.size
                    have hg5' := f5.lt
                    have hg9' := f.lt
                    have hL8l : L8.length ≤ 600 := by rw [hL8, List.length_append]; omega
                    first | refine rk_frame (by simp only [List.cons_append, List.nil_append, List.drop_succ_cons, List.drop_zero]; rfl) ?_ | refine wl_frame (by simp only [List.cons_append, List.nil_append, List.drop_succ_cons, List.drop_zero]; rfl) ?_
                    refine rk_seq ?_
                    refine rk_seq ?_
                    refine rk_region ?_
                    refine wl_p (fun _ => o_move rfl) ?_
                    refine wl_p (fun _ => o_faddr (s := 27) (i := 0) (off := 0) Try.underlying27 rfl Try.sizeOf3 rfl rfl rfl) ?_
                    refine wl_r (o_loadbg Try.isAgg3 rfl f5 (by rfl)) ?_
                    refine wl_p (fun _ => o_lt rfl rfl) ?_
                    refine wl_nil ?_
                    refine rk_if rfl (fun h68 => ?_) (fun h68 => ?_)
                    · refine rk_skip ?_
                      refine rk_seq ?_
                      refine rk_block ?_
                      refine rk_seq ?_
                      refine rk_region ?_
                      refine wl_p (fun _ => o_move rfl) ?_
                      refine wl_p (fun _ => o_faddr (s := 36) (i := 1) (off := 1) Try.underlying36 rfl Try.sizeOf3 rfl rfl rfl) ?_
                      refine wl_r (o_loadbg Try.isAgg3 rfl f (by rfl)) ?_
                      refine wl_p (fun _ => o_ne rfl rfl) ?_
                      refine wl_p (fun _ => o_move rfl) ?_
                      refine wl_joinf 12 (fun fb fr W3 => ∃ b, fr = [(87, .bool b)] ++ fb.drop 1 ∧ (b = true ↔ (j : Int) ≠ u ∧ (T = -1 ∨ T = (j : Int))) ∧ W3 = W2) ?_ (fun hj3 => ?_)
                      rotate_left
                      · refine wl_bool 75 rfl (fun h75 => ?_) (fun h75 => ?_) <;> try simp only [decide_eq_true_eq, decide_eq_false_iff_not, Bool.not_eq_true', Bool.not_eq_false', Bool.and_eq_true, Bool.and_eq_false_iff, Bool.or_eq_true, Bool.or_eq_false_iff] at h75
                        · refine wl_p (fun _ => o_faddr (s := 36) (i := 2) (off := 2) Try.underlying36 rfl Try.sizeOf34 rfl rfl rfl) ?_
                          refine wl_p (fun _ => o_faddr (s := 34) (i := 0) (off := 0) Try.underlying34 rfl Try.sizeOf3 rfl rfl rfl) ?_
                          refine wl_r (o_loadbg Try.isAgg3 rfl f (by rfl)) ?_
                          refine wl_p (fun _ => o_eq rfl rfl) ?_
                          refine wl_p (fun _ => o_move rfl) ?_
                          refine wl_bool 80 rfl (fun h80 => ?_) (fun h80 => ?_) <;> try simp only [decide_eq_true_eq, decide_eq_false_iff_not, Bool.not_eq_true', Bool.not_eq_false', Bool.and_eq_true, Bool.and_eq_false_iff, Bool.or_eq_true, Bool.or_eq_false_iff] at h80
                          · refine wl_off ?_
                            refine wl_off ?_
                            refine wl_off ?_
                            refine wl_off ?_
                            refine wl_off ?_
                            refine wl_p (fun _ => o_pick_t rfl rfl) ?_
                            refine wl_p (fun _ => o_pick_t rfl rfl) ?_
                            exact wl_tof hj3 (Fr.le_of (by kernel_rfl) (by kernel_rfl) (by repeat' constructor)) ⟨_, rfl, by simp [h75, h80], rfl⟩
                          · refine wl_p (fun _ => o_faddr (s := 36) (i := 2) (off := 2) Try.underlying36 rfl Try.sizeOf34 rfl rfl rfl) ?_
                            refine wl_p (fun _ => o_faddr (s := 34) (i := 0) (off := 0) Try.underlying34 rfl Try.sizeOf3 rfl rfl rfl) ?_
                            refine wl_r (o_loadbg Try.isAgg3 rfl f (by rfl)) ?_
                            refine wl_p (fun _ => o_move rfl) ?_
                            refine wl_p (fun _ => o_eq rfl rfl) ?_
                            refine wl_p (fun _ => o_pick_f rfl rfl) ?_
                            refine wl_p (fun _ => o_pick_t rfl rfl) ?_
                            exact wl_tof hj3 (Fr.le_of (by kernel_rfl) (by kernel_rfl) (by repeat' constructor)) ⟨_, rfl, by simp [h75, h80], rfl⟩
                        · refine wl_off ?_
                          refine wl_off ?_
                          refine wl_off ?_
                          refine wl_off ?_
                          refine wl_off ?_
                          refine wl_off ?_
                          refine wl_off ?_
                          refine wl_off ?_
                          refine wl_off ?_
                          refine wl_off ?_
                          refine wl_off ?_
                          refine wl_p (fun _ => o_pick_f rfl rfl) ?_
                          exact wl_tof hj3 (Fr.le_of (by kernel_rfl) (by kernel_rfl) (by repeat' constructor)) ⟨_, rfl, by simp [h75], rfl⟩
                      rintro fr W3 ⟨b87, rfl, hb87, rfl⟩
                      have wj : (Lit.int .i64 (j : Int)).wf = true := i64_wf (by omega)
                      have hcond : (j : Int) = T ∨ (T = -1 ∧ (j : Int) ≠ u) ↔ b87 = true := by rw [hb87]; omega
                      have hstep := putMore_succ j u T raw
                      first | refine rk_frame (by simp only [List.cons_append, List.nil_append, List.drop_succ_cons, List.drop_zero]; rfl) ?_ | refine wl_frame (by simp only [List.cons_append, List.nil_append, List.drop_succ_cons, List.drop_zero]; rfl) ?_
                      refine rk_cond rfl (fun h87 => ?_) (fun h87 => ?_) <;> try simp only [decide_eq_true_eq, decide_eq_false_iff_not, Bool.not_eq_true', Bool.not_eq_false', Bool.and_eq_true, Bool.and_eq_false_iff, Bool.or_eq_true, Bool.or_eq_false_iff] at h87
                      · rw [if_pos (hcond.2 h87)] at hstep
                        refine rk_seq ?_
                        refine rk_region ?_
                        refine wl_p (fun _ => o_move rfl) ?_
                        refine wl_p (fun _ => o_faddr (s := 36) (i := 1) (off := 1) Try.underlying36 rfl Try.sizeOf3 rfl rfl rfl) ?_
                        refine wl_r (o_loadbg Try.isAgg3 rfl f (by rfl)) ?_
                        refine wl_p (fun _ => o_move rfl) ?_
                        refine wl_p (fun _ => o_faddr (s := 36) (i := 2) (off := 2) Try.underlying36 rfl Try.sizeOf34 rfl rfl rfl) ?_
                        refine wl_p (fun _ => o_faddr (s := 34) (i := 1) (off := 1) Try.underlying34 rfl Try.sizeOf32 rfl rfl rfl) ?_
                        refine wl_r (o_loadbg Try.isAgg32 rfl f (by rfl)) ?_
                        refine wl_p (fun _ => (o_buildg [_, _, _] Try.underlying38 Try.zeroValue38 (by rfl) (by rfl) rfl (by rfl) (by rfl) (fun _ => by kernel_rfl))) ?_
                        refine wl_litW1 (by rfl) rfl f43 rfl (by omega) (by omega) wu wj (by rfl) ?_
                        rintro A96 w96 p96 f96 i96 i96_1 b96
                        have qf96 := f96.cap
                        have s96 := b96.size
                        replace hw := hw.trans (b96.mono hw.size)
                        replace f := f.u b96
                        replace f5 := f5.u b96
                        replace f15 := f15.u b96
                        replace fq := fq.u b96
                        replace fw := fw.u b96
                        refine wl_appW rfl fw rfl rfl f96.to_RWT (by rfl) (by omega) (by omega) ?_
                        rintro A97 c97 w97 p97 f97 i97 i97_1 i97_2 g97 b97
                        have qf97 := f97.cap
                        have s97 := g97.size
                        replace hw := hw.trans (b97.mono (by omega))
                        replace fq := fq.q g97 (fw.ap (by omega)) (by decide)
                        replace f15 := f15.y g97 (by decide)
                        replace f5 := f5.y g97 (by decide)
                        replace f := f.y g97 (by decide)
                        clear fw
                        clear f96
                        refine wl_p (fun _ => o_assign rfl) ?_
                        refine wl_nil ?_
                        refine rk_region ?_
                        refine wl_p (fun _ => o_move rfl) ?_
                        refine wl_p (fun _ => o_add rfl rfl (by omega) (by omega)) ?_
                        refine wl_p (fun _ => o_assign rfl) ?_
                        refine wl_nil ?_
                        refine rk_blk ?_
                        refine rk_region ?_
                        refine wl_p (fun _ => o_move rfl) ?_
                        refine wl_p (fun _ => o_add rfl rfl (by omega) (by omega)) ?_
                        refine wl_p (fun _ => o_assign rfl) ?_
                        refine wl_nil ?_
                        exact rk_againf (Fr.le_of (by kernel_rfl) (by kernel_rfl) (by repeat' constructor)) ⟨j + 1, _, _, A97, c97, p97, L8 ++ [(u, (j : Int), raw)], rfl, by omega, by omega, rfl, by rw [hL8, hstep, List.append_assoc], by rw [hstep, List.length_append, hmv]; rfl, by omega, f97, by omega, by omega, by omega, fq, f15, f5, f, by omega, hw⟩ (by omega)
                      · rw [if_neg (fun h => by rw [hcond.1 h] at h87; cases h87), List.append_nil] at hstep
                        refine rk_skip ?_
                        refine rk_blk ?_
                        refine rk_region ?_
                        refine wl_p (fun _ => o_move rfl) ?_
                        refine wl_p (fun _ => o_add rfl rfl (by omega) (by omega)) ?_
                        refine wl_p (fun _ => o_assign rfl) ?_
                        refine wl_nil ?_
                        exact rk_againf (Fr.le_of (by kernel_rfl) (by kernel_rfl) (by repeat' constructor)) ⟨j + 1, _, mv, A8, c8, q8, L8, rfl, by omega, by omega, rfl, by rw [hL8, hstep], by rw [hmv, hstep], by omega, fw, hq8, hq9, hq10, fq, f15, f5, f, hsz, hw⟩ (by omega)
                    · refine rk_exit rfl ?_
                      have hjK : (j : Int) = k' := by omega
                      rw [hjK, hM] at hL8 hmv
                      subst hL8; subst hmv
                      exact rk_tof hj2 (Fr.le_of (by kernel_rfl) (by kernel_rfl) (by repeat' constructor)) ⟨A8, c8, q8, rfl, fw, hq9, hq10, fq, f15, f5, f, hsz, hw⟩
                  clear hw fw fq f_1 f5 f fn
                  rintro fr W2 ⟨A8, c8, q8, rfl, fw, i5, i6, fq, f15, f5, f, i7, hw⟩
                  have hg5' := f5.lt
                  have shw := hw.size
                  first | refine rk_frame (by simp only [List.cons_append, List.nil_append, List.drop_succ_cons, List.drop_zero]; rfl) ?_ | refine wl_frame (by simp only [List.cons_append, List.nil_append, List.drop_succ_cons, List.drop_zero]; rfl) ?_
                  refine rk_seq ?_
                  refine rk_seq ?_
                  refine rk_region ?_
                  refine wl_p (fun _ => o_move rfl) ?_
                  refine wl_p (fun _ => o_move rfl) ?_
                  refine wl_p (fun _ => o_ne rfl rfl) ?_
                  refine wl_p (fun _ => o_move rfl) ?_
                  refine wl_know 103 false rfl (decide_eq_false (by omega)) ?_
                  refine wl_p (fun _ => o_faddr (s := 36) (i := 1) (off := 1) Try.underlying36 rfl Try.sizeOf3 rfl rfl rfl) ?_
                  refine wl_r (o_loadbg Try.isAgg3 rfl f (by rfl)) ?_
                  refine wl_p (fun _ => o_lt rfl rfl) ?_
                  refine wl_p (fun _ => o_pick_f rfl rfl) ?_
                  refine wl_p (fun _ => o_move rfl) ?_
                  refine wl_know 108 false rfl (decide_eq_false (by omega)) ?_
                  refine wl_p (fun _ => o_faddr (s := 36) (i := 1) (off := 1) Try.underlying36 rfl Try.sizeOf3 rfl rfl rfl) ?_
                  refine wl_r (o_loadbg Try.isAgg3 rfl f (by rfl)) ?_
                  refine wl_p (fun _ => o_faddr (s := 27) (i := 0) (off := 0) Try.underlying27 rfl Try.sizeOf3 rfl rfl rfl) ?_
                  refine wl_r (o_loadbg Try.isAgg3 rfl f5 (by rfl)) ?_
                  refine wl_p (fun _ => o_ge rfl rfl) ?_
                  refine wl_p (fun _ => o_pick_f rfl rfl) ?_
                  refine wl_p (fun _ => o_move rfl) ?_
                  refine wl_know 115 false rfl (decide_eq_false (by omega)) ?_
                  refine wl_p (fun _ => o_faddr (s := 36) (i := 2) (off := 2) Try.underlying36 rfl Try.sizeOf34 rfl rfl rfl) ?_
                  refine wl_p (fun _ => o_faddr (s := 34) (i := 0) (off := 0) Try.underlying34 rfl Try.sizeOf3 rfl rfl rfl) ?_
                  refine wl_r (o_loadbg Try.isAgg3 rfl f (by rfl)) ?_
                  refine wl_p (fun _ => o_faddr (s := 36) (i := 1) (off := 1) Try.underlying36 rfl Try.sizeOf3 rfl rfl rfl) ?_
                  refine wl_r (o_loadbg Try.isAgg3 rfl f (by rfl)) ?_
                  refine wl_p (fun _ => o_eq rfl rfl) ?_
                  refine wl_p (fun _ => o_pick_f rfl rfl) ?_
                  refine wl_p (fun _ => o_move rfl) ?_
                  refine wl_know 123 false rfl (decide_eq_false (by omega)) ?_
                  refine wl_p (fun _ => o_faddr (s := 36) (i := 2) (off := 2) Try.underlying36 rfl Try.sizeOf34 rfl rfl rfl) ?_
                  refine wl_p (fun _ => o_faddr (s := 34) (i := 0) (off := 0) Try.underlying34 rfl Try.sizeOf3 rfl rfl rfl) ?_
                  refine wl_r (o_loadbg Try.isAgg3 rfl f (by rfl)) ?_
                  refine wl_p (fun _ => o_lt rfl rfl) ?_
                  refine wl_p (fun _ => o_pick_f rfl rfl) ?_
                  refine wl_p (fun _ => o_move rfl) ?_
                  refine wl_know 129 false rfl (decide_eq_false (by omega)) ?_
                  refine wl_p (fun _ => o_faddr (s := 36) (i := 2) (off := 2) Try.underlying36 rfl Try.sizeOf34 rfl rfl rfl) ?_
                  refine wl_p (fun _ => o_faddr (s := 34) (i := 0) (off := 0) Try.underlying34 rfl Try.sizeOf3 rfl rfl rfl) ?_
                  refine wl_r (o_loadbg Try.isAgg3 rfl f (by rfl)) ?_
                  refine wl_p (fun _ => o_faddr (s := 27) (i := 0) (off := 0) Try.underlying27 rfl Try.sizeOf3 rfl rfl rfl) ?_
                  refine wl_r (o_loadbg Try.isAgg3 rfl f5 (by rfl)) ?_
                  refine wl_p (fun _ => o_ge rfl rfl) ?_
                  refine wl_p (fun _ => o_pick_f rfl rfl) ?_
                  refine wl_nil ?_
                  refine rk_if rfl (fun h136 => absurd h136 (by omega)) (fun h136 => ?_)
                  refine rk_skip ?_
                  refine rk_region ?_
                  refine wl_r (o_loadag Try.isAgg27 Try.sizeOf27 rfl f15 (by rfl)) ?_
                  refine wl_storega Try.sizeOf27 rfl rfl (by rfl) (oneCell_of (by rfl)) f5 (by rfl) ?_
                  rintro w_4 f_1 g_3 e_3
                  have s_3 := g_3.size
                  replace hw := hw.trans (below_of_grownBy g_3.g hw.size (by omega))
                  replace f := f.k g_3.g (ap_some (by omega))
                  replace f15 := f15.k g_3.g (ap_some (by omega))
                  replace fq := fq.y g_3 (by decide)
                  replace fw := fw.y g_3 (by decide)
                  clear f5
                  refine wl_nil ?_
                  refine rk_blk ?_
                  exact rk_tof hj (Fr.le_of (by kernel_rfl) (by kernel_rfl) (by repeat' constructor)) ⟨A8, c8, L ++ M, rfl, A', c', lo2, hi2, q8, fq, f_1, fw, i5, by omega, by omega, hput, hw⟩
                · refine rk_skip ?_
                  refine rk_blk ?_
                  exact rk_tof hj (Fr.le_of (by kernel_rfl) (by kernel_rfl) (by repeat' constructor)) ⟨A7, c7, L, rfl, A1, c1, lo, hi', q, fn, f5, fw, hq, by omega, by omega, hok, hw⟩
              · refine wl_call rfl (C_OwnN _ (f43.u hw) rfl (by omega)) ?_ (hq := .inr fun _ _ h => grown_of_below h.choose_spec.choose_spec.2.2 _)
                rintro v57 w57 ⟨A57, ⟨c57, ⟨rfl, ⟨f57, b57⟩⟩⟩⟩
                simp only [drew_size] at f57
                simp only [drew_size] at b57
                have qf57 := f57.cap
                have s57 := b57.size
                simp only [drew_size] at s57
                replace hw := hw.trans (b57.mono hw.size)
                replace fw := fw.u b57
                replace f5 := f5.u b57
                replace fn := fn.u b57
                replace f := f.u b57
                refine wl_p (fun _ => (o_buildg [_, _] Try.underlying34 Try.zeroValue34 (by rfl) (by rfl) rfl (by rfl) (by rfl) (fun _ => by kernel_rfl))) ?_
                refine wl_fork2j (m := 2047) (L := 199168) (C := 66048) (n := 9) (k1 := 11) (k2 := 16) _ [0, 0, 2, 0, 8, 16, 0, 64, 128, 256, 544, 1541, 2048, 4096, 4096, 4096, 0, 81919, 229375, 524287] [0, 0, 2, 0, 8, 24, 0, 64, 192, 448, 1016, 2047, 4095, 8191, 8191, 8191, 0, 81919, 229375, 524287] [11, 12, 13, 14, 15, 16, 17, 18, 19] [16, 11, 12, 13, 14, 15, 17, 18, 19] [17, 18, 19] [(.p, 12), (.p, 13), (.p, 14), (.p, 15), (.c, 16), (.l, 17), (.p, 18), (.p, 19)] [(.l, 11), (.p, 12), (.p, 13), (.p, 14), (.p, 15), (.l, 17), (.p, 18), (.p, 19)] [(.l, 17), (.p, 18), (.p, 19)] (by kernel_rfl) (by kernel_rfl) (by kernel_rfl) (by kernel_rfl) (by kernel_rfl) hj (fun hj => ?_) (fun hj => ?_) <;> dsimp only [inOrder, nthOp]
                · refine wl_call rfl (C_Put _ fn.to_REn f57.to_Rd hs rfl (by omega) rfl (by omega) wu wT) ?_
                  rintro v59 w59 ⟨k59, ⟨A59, ⟨c59, ⟨Q59, ⟨x59, ⟨rfl, ⟨f59, ⟨i59, ⟨i59_1, b59⟩⟩⟩⟩⟩⟩⟩⟩⟩
                  have qf59 := f59.cap
                  have s59 := b59.size
                  replace hw := hw.trans (b59.mono hw.size)
                  replace f := f.u b59
                  replace fn := fn.u b59
                  replace f5 := f5.u b59
                  replace fw := fw.u b59
                  replace f57 := f57.u b59
                  refine wl_p (fun _ => o_move rfl) ?_
                  refine wl_p (fun _ => o_ext30 rfl) ?_
                  refine wl_p (fun _ => o_ext31 rfl) ?_
                  refine wl_p (fun _ => o_ext32 rfl) ?_
                  refine wl_allocg [_, _] Try.zeroValue27 (by rfl) ?_
                  rintro g15 w15 f15 b15 i15 i15_1
                  have s15 := b15.size
                  replace hw := hw.trans (b15.mono hw.size)
                  replace f57 := f57.u b15
                  replace fw := fw.u b15
                  replace f5 := f5.u b15
                  replace fn := fn.u b15
                  replace f := f.u b15
                  replace f59 := f59.u b15
                  exact wl_tof hj (Fr.le_of (by kernel_rfl) (by kernel_rfl) (by repeat' constructor)) ⟨g15, A59, c59, k59, Q59, x59, _, _, rfl, f15, f59.mono (by omega), (show s = 0 → k59 = K ∧ Q59 = L ++ putMore K u T raw ∧ x59 = ((putMore K u T raw).length : Int) by assumption), fn, f5, f, fw, by omega, by omega, by omega, by omega, hw⟩
                · refine wl_allocg [_, _] Try.zeroValue27 (by rfl) ?_
                  rintro g15 w15 f15 b15 i15 i15_1
                  have s15 := b15.size
                  replace hw := hw.trans (b15.mono hw.size)
                  replace f := f.u b15
                  replace fn := fn.u b15
                  replace f5 := f5.u b15
                  replace fw := fw.u b15
                  replace f57 := f57.u b15
                  refine wl_call rfl (C_Put _ fn.to_REn f57.to_Rd hs rfl (by omega) rfl (by omega) wu wT) ?_
                  rintro v59 w59 ⟨k59, ⟨A59, ⟨c59, ⟨Q59, ⟨x59, ⟨rfl, ⟨f59, ⟨i59, ⟨i59_1, b59⟩⟩⟩⟩⟩⟩⟩⟩⟩
                  have qf59 := f59.cap
                  have s59 := b59.size
                  replace hw := hw.trans (b59.mono hw.size)
                  replace f57 := f57.u b59
                  replace fw := fw.u b59
                  replace f5 := f5.u b59
                  replace fn := fn.u b59
                  replace f := f.u b59
                  replace f15 := f15.u b59
                  refine wl_p (fun _ => o_move rfl) ?_
                  refine wl_p (fun _ => o_ext30 rfl) ?_
                  refine wl_p (fun _ => o_ext31 rfl) ?_
                  refine wl_p (fun _ => o_ext32 rfl) ?_
                  exact wl_tof hj (Fr.le_of (by kernel_rfl) (by kernel_rfl) (by repeat' constructor)) ⟨g15, A59, c59, k59, Q59, x59, _, _, rfl, f15, f59.mono (by omega), (show s = 0 → k59 = K ∧ Q59 = L ++ putMore K u T raw ∧ x59 = ((putMore K u T raw).length : Int) by assumption), fn, f5, f, fw, by omega, by omega, by omega, by omega, hw⟩
              · refine wl_allocg [_, _] Try.zeroValue27 (by rfl) ?_
                rintro g15 w15 f15 b15 i15 i15_1
                simp only [drew_size] at b15
                simp only [drew_size] at i15
                have s15 := b15.size
                simp only [drew_size] at s15
                replace hw := hw.trans (b15.mono hw.size)
                replace fw := fw.u b15
                replace f5 := f5.u b15
                replace fn := fn.u b15
                replace f := f.u b15
                refine wl_call rfl (C_OwnN _ (f43.u hw) rfl (by omega)) ?_ (hq := .inr fun _ _ h => grown_of_below h.choose_spec.choose_spec.2.2 _)
                rintro v57 w57 ⟨A57, ⟨c57, ⟨rfl, ⟨f57, b57⟩⟩⟩⟩
                have qf57 := f57.cap
                have s57 := b57.size
                replace hw := hw.trans (b57.mono hw.size)
                replace f := f.u b57
                replace fn := fn.u b57
                replace f5 := f5.u b57
                replace fw := fw.u b57
                replace f15 := f15.u b57
                refine wl_p (fun _ => (o_buildg [_, _] Try.underlying34 Try.zeroValue34 (by rfl) (by rfl) rfl (by rfl) (by rfl) (fun _ => by kernel_rfl))) ?_
                refine wl_call rfl (C_Put _ fn.to_REn f57.to_Rd hs rfl (by omega) rfl (by omega) wu wT) ?_
                rintro v59 w59 ⟨k59, ⟨A59, ⟨c59, ⟨Q59, ⟨x59, ⟨rfl, ⟨f59, ⟨i59, ⟨i59_1, b59⟩⟩⟩⟩⟩⟩⟩⟩⟩
                have qf59 := f59.cap
                have s59 := b59.size
                replace hw := hw.trans (b59.mono hw.size)
                replace f15 := f15.u b59
                replace fw := fw.u b59
                replace f5 := f5.u b59
                replace fn := fn.u b59
                replace f := f.u b59
                replace f57 := f57.u b59
                refine wl_p (fun _ => o_move rfl) ?_
                refine wl_p (fun _ => o_ext30 rfl) ?_
                refine wl_p (fun _ => o_ext31 rfl) ?_
                refine wl_p (fun _ => o_ext32 rfl) ?_
                exact wl_tof hj (Fr.le_of (by kernel_rfl) (by kernel_rfl) (by repeat' constructor)) ⟨g15, A59, c59, k59, Q59, x59, _, _, rfl, f15, f59.mono (by omega), (show s = 0 → k59 = K ∧ Q59 = L ++ putMore K u T raw ∧ x59 = ((putMore K u T raw).length : Int) by assumption), fn, f5, f, fw, by omega, by omega, by omega, by omega, hw⟩
    · refine rk_exit rfl ?_
      exact rk_tof hj (Fr.le_of (by kernel_rfl) (by kernel_rfl) (by repeat' constructor)) ⟨rfl, hw⟩
  clear hw f
  rintro fr w2 ⟨rfl, hw⟩
  first | refine rk_frame (by simp only [List.cons_append, List.nil_append, List.drop_succ_cons, List.drop_zero]; rfl) ?_ | refine wl_frame (by simp only [List.cons_append, List.nil_append, List.drop_succ_cons, List.drop_zero]; rfl) ?_
  refine rk_seq ?_
  refine rk_region ?_
  refine wl_p (fun _ => o_assign rfl) ?_
  refine wl_nil ?_
  refine ret1 rfl rfl ?_
  exact ⟨rfl, hw⟩
end Go.Proofs.Ytaldpegegekbjaa
