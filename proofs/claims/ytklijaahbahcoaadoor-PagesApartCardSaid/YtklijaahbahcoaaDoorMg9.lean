/-
  Walks: PagesNil, PagesNames.
-/
import Derived.Test.YtklijaahbahcoaaDoorMg8
import Derived.Test.YtklijaahbahcoaaDoorTie
import Derived.LaidMore
import Derived.Lay
import Derived.SevenTiedAt
namespace Go.Proofs.YtklijaahbahcoaaDoor
set_option maxRecDepth 100000
open Go.RowKit
theorem ev_zero : ((sumP [leB 4 1, List.replicate 500 0]).take 12 = List.replicate 12 0) = False := by
  have h : decide ((sumP [leB 4 1, List.replicate 500 0]).take 12 = List.replicate 12 0) = false := by kernel_rfl
  exact eq_false (of_decide_eq_false h)
theorem ev_read1 : readP (List.replicate 5 z256) [false, true] 1 = ([], 4) := by
  have e : pgAll (List.replicate 5 z256) 1 = List.replicate 512 0 := rfl
  rw [readP, show usdAt [false, true] 1 = true from rfl, if_pos rfl, show (1 : Int).toNat = 1 from rfl, e, if_neg]
  intro h
  have h1 := congrArg (List.take 12) h
  have hb : bodyL ((List.replicate 512 (0 : UInt8)).drop 12) = List.replicate 500 0 := by rw [List.drop_replicate, bodyL_full (by simp)]
  rw [pageL, hb, List.take_append_of_le_length (by rw [List.length_take, sumP_len]; decide), List.take_of_length_le (by rw [List.length_take, sumP_len]; decide), List.take_replicate] at h1
  exact (ev_zero ▸ h1 : False)
set_option maxRecDepth 100000 in
theorem C_PagesNil {v : Value} {a : PAct} (w : World) (ha : PaV w a v) (hT : TabAt0 w 0) :
    CallsR Tryd.prog 6 [v] w fun v w' => v = .bool true ∧ Below w.heap.size w w' := by
  obtain ⟨K, c, B, d, rfl, hK, hB, hc, hcm, hd, hdm, w1, w2, wz⟩ := ha
  obtain ⟨k, t, zs, b⟩ := a
  dsimp only at hK hB hc hd w1 w2 wz ⊢
  refine callsR Tryd.func6 rfl rfl (by kernel_rfl) rfl ?_
  have hw := Below.refl w.heap.size w
  refine rk_seq ?_
  refine rk_region ?_
  refine wl_boxg [_, _, _, _] rfl (by rfl) ?_
  rintro g1 w1_1 f1 b1 i1 i1_1
  have s1 := b1.size
  replace hw := hw.trans (b1.mono hw.size)
  refine wl_p (fun _ => o_assign rfl) ?_
  refine wl_nil ?_
  refine rk_seq ?_
  refine rk_seq ?_
  refine rk_region ?_
  refine wl_call rfl (C_lives10 _ (hT.u hw)) ?_
  rintro v14 w14 ⟨rfl, b14⟩
  have s14 := b14.size
  replace hw := hw.trans (b14.mono hw.size)
  replace f1 := f1.u b14
  refine wl_p (fun _ => o_not rfl) ?_
  refine wl_nil ?_
  refine rk_false rfl ?_
  refine rk_skip ?_
  refine rk_seq ?_
  refine rk_seq ?_
  refine rk_region ?_
  refine wl_r (o_loadag Tryd.isAgg50 Tryd.sizeOf50 rfl f1 (by rfl)) ?_
  refine wl_litPAct1 (by rfl) rfl (hK.u hw) (hB.u hw) rfl rfl (by omega) (by omega) (by omega) (by omega) w1 w2 (by omega) (by rfl) ?_
  rintro A17 w17 f17 b17
  have s17 := b17.size
  replace hw := hw.trans (b17.mono hw.size)
  replace f1 := f1.u b17
  refine wl_call rfl (C_small10 _ f17 (by rfl) (by decide)) ?_
  rintro v18 w18 ⟨b18, ⟨rfl, ⟨i18, b18_1⟩⟩⟩
  have s18 := b18_1.size
  replace hw := hw.trans (b18_1.mono hw.size)
  replace f1 := f1.u b18_1
  replace f17 := f17.u b18_1
  refine wl_p (fun _ => o_not rfl) ?_
  refine wl_nil ?_
  cases b18 with
  | false =>
    refine rk_true rfl ?_
    refine rk_seq ?_
    refine rk_region ?_
    refine wl_p (fun _ => o_assign rfl) ?_
    refine wl_nil ?_
    refine ret1 rfl rfl ?_
    exact ⟨rfl, hw⟩
  | true =>
    have hs := (show true = true ↔ smallP [(k, t, zs, b)] by assumption).1 rfl
    obtain ⟨hbl, hzl⟩ := hs.2 _ (List.mem_singleton.2 rfl)
    dsimp only at hbl hzl
    by_cases hok : 0 ≤ t ∧ t < 2147483648 ∧ b.length ≤ 500
    · obtain ⟨n, hn⟩ : ∃ n : Nat, t = (n : Int) := ⟨t.toNat, by omega⟩
      subst hn
      obtain ⟨r, hr⟩ : ∃ r, pageL n b = r := ⟨_, rfl⟩
      refine rk_false rfl ?_
      refine rk_skip ?_
      refine rk_seq ?_
      refine rk_region ?_
      refine wl_p (fun _ => o_assign rfl) ?_
      refine wl_nil ?_
      refine rk_seq ?_
      refine rk_region ?_
      refine wl_p (fun _ => o_move rfl) ?_
      refine wl_p (fun _ => o_faddr (s := 50) (i := 3) (off := 3) Tryd.underlying50 rfl Tryd.sizeOf22 rfl rfl rfl) ?_
      refine wl_r (o_loadbg Tryd.isAgg22 rfl f1 (by rfl)) ?_
      refine wl_call rfl (C_pNewNil _) ?_
      rintro v24 w24 ⟨rfl, b24⟩
      have s24 := b24.size
      replace hw := hw.trans (b24.mono hw.size)
      replace f17 := f17.u b24
      replace f1 := f1.u b24
      refine wl_p (fun _ => o_move rfl) ?_
      refine wl_p (fun _ => o_ext20 rfl) ?_
      refine wl_p (fun _ => o_ext21 rfl) ?_
      refine wl_p (fun _ => o_assign rfl) ?_
      refine wl_p (fun _ => o_assign rfl) ?_
      refine wl_nil ?_
      refine rk_seq ?_
      refine rk_region ?_
      refine wl_p (fun _ => o_move rfl) ?_
      refine wl_p (fun _ => o_faddr (s := 50) (i := 1) (off := 1) Tryd.underlying50 rfl Tryd.sizeOf3 rfl rfl rfl) ?_
      refine wl_r (o_loadbg Tryd.isAgg3 rfl f1 (by rfl)) ?_
      refine wl_call rfl (C_pReadNil _) ?_
      rintro v31 w31 ⟨rfl, b31⟩
      have s31 := b31.size
      replace hw := hw.trans (b31.mono hw.size)
      replace f1 := f1.u b31
      replace f17 := f17.u b31
      refine wl_p (fun _ => o_move rfl) ?_
      refine wl_p (fun _ => o_ext20 rfl) ?_
      refine wl_p (fun _ => o_ext21 rfl) ?_
      refine wl_p (fun _ => o_assign rfl) ?_
      refine wl_p (fun _ => o_assign rfl) ?_
      refine wl_nil ?_
      refine rk_seq ?_
      refine rk_region ?_
      refine wl_p (fun _ => o_move rfl) ?_
      refine wl_p (fun _ => o_faddr (s := 50) (i := 2) (off := 2) Tryd.underlying50 rfl Tryd.sizeOf35 rfl rfl rfl) ?_
      refine wl_r (o_loadbg Tryd.isAgg35 rfl f1 (by rfl)) ?_
      refine wl_call rfl (C_pKeepNil _) ?_
      rintro v38 w38 ⟨rfl, b38⟩
      have s38 := b38.size
      replace hw := hw.trans (b38.mono hw.size)
      replace f17 := f17.u b38
      replace f1 := f1.u b38
      refine wl_p (fun _ => o_move rfl) ?_
      refine wl_p (fun _ => o_ext20 rfl) ?_
      refine wl_p (fun _ => o_ext21 rfl) ?_
      refine wl_p (fun _ => o_assign rfl) ?_
      refine wl_p (fun _ => o_assign rfl) ?_
      refine wl_nil ?_
      refine rk_seq ?_
      refine rk_draw (id := 9) (none) [0, 1, 0, 4, 8, 18, 32, 64, 64, 255, 1023] [0, 1, 0, 4, 12, 31, 63, 127, 127, 255, 1023] 48 16 [(.p, 0), (.s, 1), (.p, 2), (.r, 3), (.c, 4), (.l, 5), (.p, 6), (.p, 7), (.p, 8), (.p, 9), (.p, 10)] (by kernel_rfl) (by kernel_rfl) (by kernel_rfl) (by kernel_rfl) (by kernel_rfl) ?_
      replace hw := hw.drew
      replace f1 := f1.d
      replace f17 := f17.d
      refine wl_p (fun _ => o_faddr (s := 50) (i := 1) (off := 1) Tryd.underlying50 rfl Tryd.sizeOf3 rfl rfl rfl) ?_
      refine wl_s (fun _ hk => (o_loadbg Tryd.isAgg3 rfl (f1.u (below_of_grown_none hk)) (by rfl))) ?_
      refine wl_p (fun _ => o_faddr (s := 50) (i := 3) (off := 3) Tryd.underlying50 rfl Tryd.sizeOf22 rfl rfl rfl) ?_
      refine wl_r (o_loadbg Tryd.isAgg22 rfl f1 (by rfl)) ?_
      refine wl_call rfl (C_OwnP _ (hB.u hw) rfl (by omega)) ?_ (hq := .inr fun _ _ h => grown_of_below h.choose_spec.choose_spec.2.2 _)
      rintro v46 w46 ⟨A46, ⟨c46, ⟨rfl, ⟨f46, b46⟩⟩⟩⟩
      simp only [drew_size] at f46
      simp only [drew_size] at b46
      have qf46 := f46.cap
      have s46 := b46.size
      simp only [drew_size] at s46
      replace hw := hw.trans (b46.mono hw.size)
      replace f17 := f17.u b46
      replace f1 := f1.u b46
      refine wl_call rfl (C_pBytesOk _ f46.to_Rd rfl hr (by omega) rfl (by omega)) ?_
      rintro v47 w47 ⟨A47, ⟨c47, ⟨rfl, ⟨f47, ⟨e47, ⟨i47, ⟨i47_1, b47⟩⟩⟩⟩⟩⟩⟩
      have s47 := b47.size
      replace hw := hw.trans (b47.mono hw.size)
      replace f1 := f1.u b47
      replace f17 := f17.u b47
      replace f46 := f46.u b47
      refine wl_p (fun _ => o_move rfl) ?_
      refine wl_p (fun _ => o_ext20 rfl) ?_
      refine wl_p (fun _ => o_ext21 rfl) ?_
      refine wl_p (fun _ => o_assign rfl) ?_
      refine wl_p (fun _ => o_assign rfl) ?_
      refine wl_nild ?_
      refine rk_seq ?_
      refine rk_region ?_
      refine wl_p (fun _ => o_faddr (s := 50) (i := 1) (off := 1) Tryd.underlying50 rfl Tryd.sizeOf3 rfl rfl rfl) ?_
      refine wl_r (o_loadbg Tryd.isAgg3 rfl f1 (by rfl)) ?_
      refine wl_p (fun _ => o_faddr (s := 50) (i := 3) (off := 3) Tryd.underlying50 rfl Tryd.sizeOf22 rfl rfl rfl) ?_
      refine wl_r (o_loadbg Tryd.isAgg22 rfl f1 (by rfl)) ?_
      refine wl_call rfl (C_rBytesOk _ (hB.u hw) rfl hr (by omega) rfl (by omega)) ?_
      rintro v55 w55 ⟨A55, ⟨c55, ⟨rfl, ⟨f55, ⟨e55, b55⟩⟩⟩⟩⟩
      have qf55 := f55.cap
      have s55 := b55.size
      replace hw := hw.trans (b55.mono hw.size)
      replace f46 := f46.u b55
      replace f17 := f17.u b55
      replace f1 := f1.u b55
      replace f47 := f47.u b55
      refine wl_p (fun _ => o_move rfl) ?_
      refine wl_p (fun _ => o_ext20 rfl) ?_
      refine wl_p (fun _ => o_ext21 rfl) ?_
      refine wl_p (fun _ => o_assign rfl) ?_
      refine wl_p (fun _ => o_assign rfl) ?_
      refine wl_nil ?_
      refine rk_seq ?_
      refine rk_region ?_
      refine wl_p (fun _ => o_move rfl) ?_
      refine wl_p (fun _ => o_eq rfl rfl) ?_
      refine wl_p (fun _ => o_move rfl) ?_
      refine wl_p (fun _ => o_move rfl) ?_
      refine wl_p (fun _ => o_eq rfl rfl) ?_
      refine wl_p (fun _ => o_pick_t rfl rfl) ?_
      refine wl_p (fun _ => o_move rfl) ?_
      refine wl_p (fun _ => o_move rfl) ?_
      refine wl_p (fun _ => o_eq rfl rfl) ?_
      refine wl_p (fun _ => o_pick_t rfl rfl) ?_
      refine wl_p (fun _ => o_move rfl) ?_
      refine wl_p (fun _ => o_move rfl) ?_
      refine wl_p (fun _ => o_faddr (s := 50) (i := 1) (off := 1) Tryd.underlying50 rfl Tryd.sizeOf3 rfl rfl rfl) ?_
      refine wl_r (o_loadbg Tryd.isAgg3 rfl f1 (by rfl)) ?_
      refine wl_call rfl (C_pFreeNil _) ?_
      rintro v72 w72 ⟨rfl, b72⟩
      have s72 := b72.size
      replace hw := hw.trans (b72.mono hw.size)
      replace f47 := f47.u b72
      replace f1 := f1.u b72
      replace f17 := f17.u b72
      replace f46 := f46.u b72
      replace f55 := f55.u b72
      refine wl_p (fun _ => o_eq rfl rfl) ?_
      refine wl_p (fun _ => o_pick_t rfl rfl) ?_
      refine wl_p (fun _ => o_move rfl) ?_
      refine wl_p (fun _ => o_move rfl) ?_
      refine wl_call rfl (C_pSyncNil _) ?_
      rintro v77 w77 ⟨rfl, b77⟩
      have s77 := b77.size
      replace hw := hw.trans (b77.mono hw.size)
      replace f55 := f55.u b77
      replace f46 := f46.u b77
      replace f17 := f17.u b77
      replace f1 := f1.u b77
      replace f47 := f47.u b77
      refine wl_p (fun _ => o_eq rfl rfl) ?_
      refine wl_p (fun _ => o_pick_t rfl rfl) ?_
      refine wl_p (fun _ => o_move rfl) ?_
      refine wl_p (fun _ => o_move rfl) ?_
      refine wl_call rfl (C_pUsedNil _) ?_
      rintro v82 w82 ⟨rfl, b82⟩
      have s82 := b82.size
      replace hw := hw.trans (b82.mono hw.size)
      replace f47 := f47.u b82
      replace f1 := f1.u b82
      replace f17 := f17.u b82
      replace f46 := f46.u b82
      replace f55 := f55.u b82
      refine wl_p (fun _ => o_len (t := 35) Tryd.underlying35 rfl) ?_
      refine wl_p (fun _ => o_eq rfl rfl) ?_
      refine wl_p (fun _ => o_pick_t rfl rfl) ?_
      refine wl_p (fun _ => o_move rfl) ?_
      refine wl_p (fun _ => o_move rfl) ?_
      refine wl_call rfl (C_pSpareNil _) ?_
      rintro v88 w88 ⟨rfl, b88⟩
      have s88 := b88.size
      replace hw := hw.trans (b88.mono hw.size)
      replace f55 := f55.u b88
      replace f46 := f46.u b88
      replace f17 := f17.u b88
      replace f1 := f1.u b88
      replace f47 := f47.u b88
      refine wl_p (fun _ => o_eq rfl rfl) ?_
      refine wl_p (fun _ => o_pick_t rfl rfl) ?_
      refine wl_p (fun _ => o_move rfl) ?_
      refine wl_p (fun _ => o_move rfl) ?_
      refine wl_r (o_strU Tryd.underlying22 Tryd.underlying5 Tryd.underlying9 rfl f47.to_Rd (Below.refl _ _) (by omega)) ?_
      refine wl_p (fun _ => o_move rfl) ?_
      refine wl_r (o_strU Tryd.underlying22 Tryd.underlying5 Tryd.underlying9 rfl f55.to_Rd (Below.refl _ _) rfl) ?_
      refine wl_p (fun _ => o_seq rfl rfl) ?_
      refine wl_p (fun _ => o_pick_t rfl rfl) ?_
      refine wl_p (fun _ => o_move rfl) ?_
      refine wl_know 98 true rfl (by simp) ?_
      refine wl_p (fun _ => o_move rfl) ?_
      refine wl_p (fun _ => o_move rfl) ?_
      refine wl_p (fun _ => o_eq rfl rfl) ?_
      refine wl_p (fun _ => o_pick_t rfl rfl) ?_
      refine wl_p (fun _ => o_assign rfl) ?_
      refine wl_nil ?_
      refine ret1 rfl rfl ?_
      exact ⟨rfl, hw⟩
    · refine rk_false rfl ?_
      refine rk_skip ?_
      refine rk_seq ?_
      refine rk_region ?_
      refine wl_p (fun _ => o_assign rfl) ?_
      refine wl_nil ?_
      refine rk_seq ?_
      refine rk_region ?_
      refine wl_p (fun _ => o_move rfl) ?_
      refine wl_p (fun _ => o_faddr (s := 50) (i := 3) (off := 3) Tryd.underlying50 rfl Tryd.sizeOf22 rfl rfl rfl) ?_
      refine wl_r (o_loadbg Tryd.isAgg22 rfl f1 (by rfl)) ?_
      refine wl_call rfl (C_pNewNil _) ?_
      rintro v24 w24 ⟨rfl, b24⟩
      have s24 := b24.size
      replace hw := hw.trans (b24.mono hw.size)
      replace f17 := f17.u b24
      replace f1 := f1.u b24
      refine wl_p (fun _ => o_move rfl) ?_
      refine wl_p (fun _ => o_ext20 rfl) ?_
      refine wl_p (fun _ => o_ext21 rfl) ?_
      refine wl_p (fun _ => o_assign rfl) ?_
      refine wl_p (fun _ => o_assign rfl) ?_
      refine wl_nil ?_
      refine rk_seq ?_
      refine rk_region ?_
      refine wl_p (fun _ => o_move rfl) ?_
      refine wl_p (fun _ => o_faddr (s := 50) (i := 1) (off := 1) Tryd.underlying50 rfl Tryd.sizeOf3 rfl rfl rfl) ?_
      refine wl_r (o_loadbg Tryd.isAgg3 rfl f1 (by rfl)) ?_
      refine wl_call rfl (C_pReadNil _) ?_
      rintro v31 w31 ⟨rfl, b31⟩
      have s31 := b31.size
      replace hw := hw.trans (b31.mono hw.size)
      replace f1 := f1.u b31
      replace f17 := f17.u b31
      refine wl_p (fun _ => o_move rfl) ?_
      refine wl_p (fun _ => o_ext20 rfl) ?_
      refine wl_p (fun _ => o_ext21 rfl) ?_
      refine wl_p (fun _ => o_assign rfl) ?_
      refine wl_p (fun _ => o_assign rfl) ?_
      refine wl_nil ?_
      refine rk_seq ?_
      refine rk_region ?_
      refine wl_p (fun _ => o_move rfl) ?_
      refine wl_p (fun _ => o_faddr (s := 50) (i := 2) (off := 2) Tryd.underlying50 rfl Tryd.sizeOf35 rfl rfl rfl) ?_
      refine wl_r (o_loadbg Tryd.isAgg35 rfl f1 (by rfl)) ?_
      refine wl_call rfl (C_pKeepNil _) ?_
      rintro v38 w38 ⟨rfl, b38⟩
      have s38 := b38.size
      replace hw := hw.trans (b38.mono hw.size)
      replace f17 := f17.u b38
      replace f1 := f1.u b38
      refine wl_p (fun _ => o_move rfl) ?_
      refine wl_p (fun _ => o_ext20 rfl) ?_
      refine wl_p (fun _ => o_ext21 rfl) ?_
      refine wl_p (fun _ => o_assign rfl) ?_
      refine wl_p (fun _ => o_assign rfl) ?_
      refine wl_nil ?_
      refine rk_seq ?_
      refine rk_draw (id := 9) (none) [0, 1, 0, 4, 8, 18, 32, 64, 64, 255, 1023] [0, 1, 0, 4, 12, 31, 63, 127, 127, 255, 1023] 48 16 [(.p, 0), (.s, 1), (.p, 2), (.r, 3), (.c, 4), (.l, 5), (.p, 6), (.p, 7), (.p, 8), (.p, 9), (.p, 10)] (by kernel_rfl) (by kernel_rfl) (by kernel_rfl) (by kernel_rfl) (by kernel_rfl) ?_
      replace hw := hw.drew
      replace f1 := f1.d
      replace f17 := f17.d
      refine wl_p (fun _ => o_faddr (s := 50) (i := 1) (off := 1) Tryd.underlying50 rfl Tryd.sizeOf3 rfl rfl rfl) ?_
      refine wl_s (fun _ hk => (o_loadbg Tryd.isAgg3 rfl (f1.u (below_of_grown_none hk)) (by rfl))) ?_
      refine wl_p (fun _ => o_faddr (s := 50) (i := 3) (off := 3) Tryd.underlying50 rfl Tryd.sizeOf22 rfl rfl rfl) ?_
      refine wl_r (o_loadbg Tryd.isAgg22 rfl f1 (by rfl)) ?_
      refine wl_call rfl (C_OwnP _ (hB.u hw) rfl (by omega)) ?_ (hq := .inr fun _ _ h => grown_of_below h.choose_spec.choose_spec.2.2 _)
      rintro v46 w46 ⟨A46, ⟨c46, ⟨rfl, ⟨f46, b46⟩⟩⟩⟩
      simp only [drew_size] at f46
      simp only [drew_size] at b46
      have qf46 := f46.cap
      have s46 := b46.size
      simp only [drew_size] at s46
      replace hw := hw.trans (b46.mono hw.size)
      replace f17 := f17.u b46
      replace f1 := f1.u b46
      refine wl_call rfl (C_pBytesBad _ (by omega)) ?_
      rintro v47 w47 ⟨rfl, b47⟩
      have s47 := b47.size
      replace hw := hw.trans (b47.mono hw.size)
      replace f1 := f1.u b47
      replace f17 := f17.u b47
      replace f46 := f46.u b47
      refine wl_p (fun _ => o_move rfl) ?_
      refine wl_p (fun _ => o_ext20 rfl) ?_
      refine wl_p (fun _ => o_ext21 rfl) ?_
      refine wl_p (fun _ => o_assign rfl) ?_
      refine wl_p (fun _ => o_assign rfl) ?_
      refine wl_nild ?_
      refine rk_seq ?_
      refine rk_region ?_
      refine wl_p (fun _ => o_faddr (s := 50) (i := 1) (off := 1) Tryd.underlying50 rfl Tryd.sizeOf3 rfl rfl rfl) ?_
      refine wl_r (o_loadbg Tryd.isAgg3 rfl f1 (by rfl)) ?_
      refine wl_p (fun _ => o_faddr (s := 50) (i := 3) (off := 3) Tryd.underlying50 rfl Tryd.sizeOf22 rfl rfl rfl) ?_
      refine wl_r (o_loadbg Tryd.isAgg22 rfl f1 (by rfl)) ?_
      refine wl_call rfl (C_rBytesBad _ (by omega)) ?_
      rintro v55 w55 ⟨rfl, b55⟩
      have s55 := b55.size
      replace hw := hw.trans (b55.mono hw.size)
      replace f46 := f46.u b55
      replace f17 := f17.u b55
      replace f1 := f1.u b55
      refine wl_p (fun _ => o_move rfl) ?_
      refine wl_p (fun _ => o_ext20 rfl) ?_
      refine wl_p (fun _ => o_ext21 rfl) ?_
      refine wl_p (fun _ => o_assign rfl) ?_
      refine wl_p (fun _ => o_assign rfl) ?_
      refine wl_nil ?_
      refine rk_seq ?_
      refine rk_region ?_
      refine wl_p (fun _ => o_move rfl) ?_
      refine wl_p (fun _ => o_eq rfl rfl) ?_
      refine wl_p (fun _ => o_move rfl) ?_
      refine wl_p (fun _ => o_move rfl) ?_
      refine wl_p (fun _ => o_eq rfl rfl) ?_
      refine wl_p (fun _ => o_pick_t rfl rfl) ?_
      refine wl_p (fun _ => o_move rfl) ?_
      refine wl_p (fun _ => o_move rfl) ?_
      refine wl_p (fun _ => o_eq rfl rfl) ?_
      refine wl_p (fun _ => o_pick_t rfl rfl) ?_
      refine wl_p (fun _ => o_move rfl) ?_
      refine wl_p (fun _ => o_move rfl) ?_
      refine wl_p (fun _ => o_faddr (s := 50) (i := 1) (off := 1) Tryd.underlying50 rfl Tryd.sizeOf3 rfl rfl rfl) ?_
      refine wl_r (o_loadbg Tryd.isAgg3 rfl f1 (by rfl)) ?_
      refine wl_call rfl (C_pFreeNil _) ?_
      rintro v72 w72 ⟨rfl, b72⟩
      have s72 := b72.size
      replace hw := hw.trans (b72.mono hw.size)
      replace f1 := f1.u b72
      replace f17 := f17.u b72
      replace f46 := f46.u b72
      refine wl_p (fun _ => o_eq rfl rfl) ?_
      refine wl_p (fun _ => o_pick_t rfl rfl) ?_
      refine wl_p (fun _ => o_move rfl) ?_
      refine wl_p (fun _ => o_move rfl) ?_
      refine wl_call rfl (C_pSyncNil _) ?_
      rintro v77 w77 ⟨rfl, b77⟩
      have s77 := b77.size
      replace hw := hw.trans (b77.mono hw.size)
      replace f46 := f46.u b77
      replace f17 := f17.u b77
      replace f1 := f1.u b77
      refine wl_p (fun _ => o_eq rfl rfl) ?_
      refine wl_p (fun _ => o_pick_t rfl rfl) ?_
      refine wl_p (fun _ => o_move rfl) ?_
      refine wl_p (fun _ => o_move rfl) ?_
      refine wl_call rfl (C_pUsedNil _) ?_
      rintro v82 w82 ⟨rfl, b82⟩
      have s82 := b82.size
      replace hw := hw.trans (b82.mono hw.size)
      replace f1 := f1.u b82
      replace f17 := f17.u b82
      replace f46 := f46.u b82
      refine wl_p (fun _ => o_len (t := 35) Tryd.underlying35 rfl) ?_
      refine wl_p (fun _ => o_eq rfl rfl) ?_
      refine wl_p (fun _ => o_pick_t rfl rfl) ?_
      refine wl_p (fun _ => o_move rfl) ?_
      refine wl_p (fun _ => o_move rfl) ?_
      refine wl_call rfl (C_pSpareNil _) ?_
      rintro v88 w88 ⟨rfl, b88⟩
      have s88 := b88.size
      replace hw := hw.trans (b88.mono hw.size)
      replace f46 := f46.u b88
      replace f17 := f17.u b88
      replace f1 := f1.u b88
      refine wl_p (fun _ => o_eq rfl rfl) ?_
      refine wl_p (fun _ => o_pick_t rfl rfl) ?_
      refine wl_p (fun _ => o_move rfl) ?_
      refine wl_p (fun _ => o_move rfl) ?_
      refine wl_r (o_strU Tryd.underlying22 Tryd.underlying5 Tryd.underlying9 rfl (Rd.nil_) hw (by rfl)) ?_
      refine wl_p (fun _ => o_move rfl) ?_
      refine wl_r (o_strU Tryd.underlying22 Tryd.underlying5 Tryd.underlying9 rfl (Rd.nil_) hw (by rfl)) ?_
      refine wl_p (fun _ => o_seq rfl rfl) ?_
      refine wl_p (fun _ => o_pick_t rfl rfl) ?_
      refine wl_p (fun _ => o_move rfl) ?_
      refine wl_p (fun _ => o_move rfl) ?_
      refine wl_p (fun _ => o_move rfl) ?_
      refine wl_p (fun _ => o_eq rfl rfl) ?_
      refine wl_p (fun _ => o_pick_t rfl rfl) ?_
      refine wl_p (fun _ => o_assign rfl) ?_
      refine wl_nil ?_
      refine ret1 rfl rfl ?_
      exact ⟨rfl, hw⟩
set_option maxRecDepth 100000 in
theorem C_PagesNames (w : World) (hT : TabAt0 w 0) :
    CallsR Tryd.prog 4 [] w fun v w' => v = .bool true ∧ Below w.heap.size w w' := by
  obtain ⟨Z, hZ⟩ : ∃ Z : List Sec, List.replicate 5 z256 = Z := ⟨_, rfl⟩
  obtain ⟨Q, hQ⟩ : ∃ Q : List (Option Sec), List.replicate 5 none = Q := ⟨_, rfl⟩
  have hZl : Z.length = 5 := by rw [← hZ, List.length_replicate]
  have hQl : Q.length = 5 := by rw [← hQ, List.length_replicate]
  have hm : Z.length / 2 = 2 := by rw [hZl]
  have ho2 : openOk 2 [2] = false := rfl
  have ho1 : openOk 2 [1] = true := rfl
  have hU : markAll (List.replicate 2 false) [1] = [false, true] := rfl
  obtain ⟨X0, hX0⟩ : ∃ X, cur Z Q = X := ⟨_, rfl⟩
  have hXz : X0 = List.replicate 5 z256 := by rw [← hX0, ← hQ, cur_none, ← hZ]
  have hR1 : readP X0 [false, true] 1 = ([], 4) := by rw [hXz]; exact ev_read1
  obtain ⟨b501, hb501⟩ : ∃ b : By, List.replicate 501 0 = b := ⟨_, rfl⟩
  have hb501l : b501.length = 501 := by rw [← hb501, List.length_replicate]
  have hn1 : newP Z Q [false, true] b501 = ((0, 2), Q, [false, true]) := newP_bad (by omega)
  have hn2 : newP Z Q [false, true] [] = ((0, 0), newC Z Q 0 (pageL 0 []), [true, true]) := newP_ok (by decide) (by decide) (by decide)
  obtain ⟨C1, hC1⟩ : ∃ C, newC Z Q 0 (pageL 0 []) = C := ⟨_, rfl⟩
  rw [hC1] at hn2
  have hn3 : newP Z C1 [true, true] [] = ((0, 7), C1, [true, true]) := newP_full (by decide) (by decide)
  have hk1 : [0].all (usdAt [true, true]) = true := rfl
  have hk2 : [1].all (usdAt [true, false]) = false := rfl
  have hM : markAll (List.replicate 2 false) [0] = [true, false] := rfl
  have hs2 : (usd [true, true] [true, true].length).length = 2 := by decide
  have hs1 : (usd [true, false] [true, false].length).length = 1 := by decide
  have hI : usdZ [true, false] [true, false].length = [0] := by decide
  obtain ⟨p7, hp7⟩ : ∃ p, pageL 7 [120] = p := ⟨_, rfl⟩
  have hp7l : p7.length = 512 := by rw [← hp7]; exact pageL_len 7 (by decide)
  have hp712 : (p7[12]'(by omega)).toNat = 120 := by
    have h : (p7.drop 12)[0]'(by rw [List.length_drop]; omega) = p7[12]'(by omega) := by rw [List.getElem_drop]
    rw [← h]
    subst hp7
    simp only [pageL_drop]
    rfl
  have hgd : 0 < w.heap.size := hT.lt
  refine callsR Tryd.func4 rfl rfl (by kernel_rfl) rfl ?_
  have hw := Below.refl w.heap.size w
  refine rk_seq ?_
  refine rk_region ?_
  refine wl_p (fun _ => o_assign rfl) ?_
  refine wl_nil ?_
  refine rk_seq ?_
  refine rk_region ?_
  refine wl_call rfl (C_dNewOk _ (by omega) hZ hQ (by omega) (by omega)) ?_
  rintro v28 w28 ⟨g28, ⟨rfl, ⟨f28, b28⟩⟩⟩
  have s28 := b28.size
  replace hw := hw.trans (b28.mono hw.size)
  refine wl_p (fun _ => o_move rfl) ?_
  refine wl_p (fun _ => o_ext20 rfl) ?_
  refine wl_p (fun _ => o_ext21 rfl) ?_
  refine wl_p (fun _ => o_assign rfl) ?_
  refine wl_p (fun _ => o_assign rfl) ?_
  refine wl_nil ?_
  refine rk_seq ?_
  refine rk_region ?_
  refine wl_call rfl (C_pOpenNil _) ?_
  rintro v32 w32 ⟨rfl, b32⟩
  have s32 := b32.size
  replace hw := hw.trans (b32.mono hw.size)
  replace f28 := f28.u b32
  refine wl_p (fun _ => o_move rfl) ?_
  refine wl_p (fun _ => o_ext20 rfl) ?_
  refine wl_p (fun _ => o_ext21 rfl) ?_
  refine wl_p (fun _ => o_assign rfl) ?_
  refine wl_p (fun _ => o_assign rfl) ?_
  refine wl_nil ?_
  refine rk_seq ?_
  refine rk_region ?_
  refine wl_p (fun _ => o_move rfl) ?_
  refine wl_litZH [2] (by rfl) rfl rfl (by rfl) (by rfl) (by rfl) ?_
  rintro A37 w37 f37 b37
  have qf37 := f37.cap
  have s37 := b37.size
  replace hw := hw.trans (b37.mono hw.size)
  replace f28 := f28.u b37
  refine wl_call rfl (C_pOpenBad _ f28 f37.to_RZ (by rfl) (by omega) hm ho2) ?_
  rintro v38 w38 ⟨rfl, b38⟩
  have s38 := b38.size
  replace hw := hw.trans (b38.mono hw.size)
  replace f28 := f28.u b38
  replace f37 := f37.u b38
  refine wl_p (fun _ => o_move rfl) ?_
  refine wl_p (fun _ => o_ext20 rfl) ?_
  refine wl_p (fun _ => o_ext21 rfl) ?_
  refine wl_p (fun _ => o_assign rfl) ?_
  refine wl_p (fun _ => o_assign rfl) ?_
  refine wl_nil ?_
  refine rk_seq ?_
  refine rk_region ?_
  refine wl_p (fun _ => o_move rfl) ?_
  refine wl_litZH [1] (by rfl) rfl rfl (by rfl) (by rfl) (by rfl) ?_
  rintro A43 w43 f43 b43
  have qf43 := f43.cap
  have s43 := b43.size
  replace hw := hw.trans (b43.mono hw.size)
  replace f37 := f37.u b43
  replace f28 := f28.u b43
  refine wl_call rfl (C_pOpenOk _ f28 f43.to_RZ (by rfl) (by omega) hm ho1 hU) ?_
  rintro v44 w44 ⟨g44, ⟨rfl, ⟨f44, ⟨i44, ⟨i44_1, b44⟩⟩⟩⟩⟩
  have s44 := b44.size
  replace hw := hw.trans (b44.mono hw.size)
  replace f28 := f28.u b44
  replace f37 := f37.u b44
  replace f43 := f43.u b44
  refine wl_p (fun _ => o_move rfl) ?_
  refine wl_p (fun _ => o_ext20 rfl) ?_
  refine wl_p (fun _ => o_ext21 rfl) ?_
  refine wl_p (fun _ => o_assign rfl) ?_
  refine wl_p (fun _ => o_assign rfl) ?_
  refine wl_nil ?_
  refine rk_seq ?_
  refine rk_seq ?_
  refine rk_region ?_
  refine wl_p (fun _ => o_move rfl) ?_
  refine wl_p (fun _ => o_ne rfl rfl) ?_
  refine wl_nil ?_
  refine rk_false rfl ?_
  refine rk_skip ?_
  refine rk_seq ?_
  refine rk_region ?_
  refine wl_p (fun _ => o_move rfl) ?_
  refine wl_call rfl (C_pRead _ f44 f28 hX0 hR1 (by simp; omega) (by rfl)) ?_
  rintro v51 w51 ⟨A51, ⟨c51, ⟨rfl, ⟨f51, ⟨i51, b51⟩⟩⟩⟩⟩
  dsimp only at f51
  dsimp only at i51
  dsimp only
  have s51 := b51.size
  replace hw := hw.trans (b51.mono hw.size)
  replace f43 := f43.u b51
  replace f37 := f37.u b51
  replace f28 := f28.u b51
  replace f44 := f44.u b51
  refine wl_p (fun _ => o_move rfl) ?_
  refine wl_p (fun _ => o_ext20 rfl) ?_
  refine wl_p (fun _ => o_ext21 rfl) ?_
  refine wl_p (fun _ => o_assign rfl) ?_
  refine wl_p (fun _ => o_assign rfl) ?_
  refine wl_nil ?_
  refine rk_seq ?_
  refine rk_region ?_
  refine wl_p (fun _ => o_move rfl) ?_
  refine wl_mkBz (501) rfl rfl (by omega) (by rfl) (by omega) hb501 ?_
  rintro A56 w56 f56 b56
  have qf56 := f56.cap
  have s56 := b56.size
  replace hw := hw.trans (b56.mono hw.size)
  replace f44 := f44.u b56
  replace f28 := f28.u b56
  replace f37 := f37.u b56
  replace f43 := f43.u b56
  replace f51 := f51.u b56
  refine wl_call rfl (C_pNew _ (hT.u hw) f44 f28 f56.to_Rd hn1 (by omega) (by omega) (by simp; omega) (by omega) (by omega) (by omega)) ?_
  rintro v57 w57 ⟨rfl, ⟨f57, ⟨f57_1, ⟨w157, ⟨g57, g57_1⟩⟩⟩⟩⟩
  dsimp only at f57
  dsimp only at f57_1
  dsimp only
  have s57 := g57.size
  replace hw := hw.trans (g57.below hw.size (by omega))
  replace f51 := f51.c g57 (by omega)
  replace f43 := f43.c g57 (by omega)
  replace f37 := f37.c g57 (by omega)
  replace f44 := f44.c g57 (by omega)
  replace f56 := f56.c g57 (by omega)
  clear f28
  have s57g57_1 := g57_1.size
  replace hw := hw.trans (g57_1.below hw.size (by omega))
  replace f56 := f56.c g57_1 (by omega)
  replace f37 := f37.c g57_1 (by omega)
  replace f43 := f43.c g57_1 (by omega)
  replace f51 := f51.c g57_1 (by omega)
  clear f44
  refine wl_p (fun _ => o_move rfl) ?_
  refine wl_p (fun _ => o_ext20 rfl) ?_
  refine wl_p (fun _ => o_ext21 rfl) ?_
  refine wl_p (fun _ => o_assign rfl) ?_
  refine wl_p (fun _ => o_assign rfl) ?_
  refine wl_nil ?_
  refine rk_seq ?_
  refine rk_region ?_
  refine wl_p (fun _ => o_move rfl) ?_
  refine wl_call rfl (C_pNew _ (hT.u hw) f57 f57_1 (Rd.nil_) hn2 (by rfl) (by omega) (by simp; omega) (by omega) (by omega) (by omega)) ?_
  rintro v62 w62 ⟨rfl, ⟨f62, ⟨f62_1, ⟨w162, ⟨g62, g62_1⟩⟩⟩⟩⟩
  dsimp only at f62
  dsimp only at f62_1
  dsimp only
  have s62 := g62.size
  replace hw := hw.trans (g62.below hw.size (by omega))
  replace f51 := f51.c g62 (by omega)
  replace f43 := f43.c g62 (by omega)
  replace f37 := f37.c g62 (by omega)
  replace f56 := f56.c g62 (by omega)
  replace f57 := f57.c g62 (by omega)
  clear f57_1
  have s62g62_1 := g62_1.size
  replace hw := hw.trans (g62_1.below hw.size (by omega))
  replace f56 := f56.c g62_1 (by omega)
  replace f37 := f37.c g62_1 (by omega)
  replace f43 := f43.c g62_1 (by omega)
  replace f51 := f51.c g62_1 (by omega)
  clear f57
  refine wl_p (fun _ => o_move rfl) ?_
  refine wl_p (fun _ => o_ext20 rfl) ?_
  refine wl_p (fun _ => o_ext21 rfl) ?_
  refine wl_p (fun _ => o_assign rfl) ?_
  refine wl_p (fun _ => o_assign rfl) ?_
  refine wl_nil ?_
  refine rk_seq ?_
  refine rk_region ?_
  refine wl_p (fun _ => o_move rfl) ?_
  refine wl_call rfl (C_pNew _ (hT.u hw) f62 f62_1 (Rd.nil_) hn3 (by rfl) (by omega) (by simp; omega) (by omega) (by omega) (by omega)) ?_
  rintro v67 w67 ⟨rfl, ⟨f67, ⟨f67_1, ⟨w167, ⟨g67, g67_1⟩⟩⟩⟩⟩
  dsimp only at f67
  dsimp only at f67_1
  dsimp only
  have s67 := g67.size
  replace hw := hw.trans (g67.below hw.size (by omega))
  replace f51 := f51.c g67 (by omega)
  replace f43 := f43.c g67 (by omega)
  replace f37 := f37.c g67 (by omega)
  replace f56 := f56.c g67 (by omega)
  replace f62 := f62.c g67 (by omega)
  clear f62_1
  have s67g67_1 := g67_1.size
  replace hw := hw.trans (g67_1.below hw.size (by omega))
  replace f56 := f56.c g67_1 (by omega)
  replace f37 := f37.c g67_1 (by omega)
  replace f43 := f43.c g67_1 (by omega)
  replace f51 := f51.c g67_1 (by omega)
  clear f62
  refine wl_p (fun _ => o_move rfl) ?_
  refine wl_p (fun _ => o_ext20 rfl) ?_
  refine wl_p (fun _ => o_ext21 rfl) ?_
  refine wl_p (fun _ => o_assign rfl) ?_
  refine wl_p (fun _ => o_assign rfl) ?_
  refine wl_nil ?_
  refine rk_seq ?_
  refine rk_region ?_
  refine wl_p (fun _ => o_move rfl) ?_
  refine wl_litZH [0] (by rfl) rfl rfl (by rfl) (by rfl) (by rfl) ?_
  rintro A72 w72 f72 b72
  have qf72 := f72.cap
  have s72 := b72.size
  replace hw := hw.trans (b72.mono hw.size)
  replace f51 := f51.u b72
  replace f43 := f43.u b72
  replace f37 := f37.u b72
  replace f56 := f56.u b72
  replace f67_1 := f67_1.u b72
  replace f67 := f67.u b72
  refine wl_call rfl (C_pKeepOk _ f67 f72.to_RZ (by rfl) hs2 hs1 (by rfl) (by omega) hk1 (by decide)) ?_
  rintro v73 w73 ⟨rfl, ⟨f73, g73⟩⟩
  have s73 := g73.size
  replace hw := hw.trans (g73.below hw.size (by omega))
  replace f67_1 := f67_1.c g73 (by omega)
  replace f56 := f56.c g73 (by omega)
  replace f37 := f37.c g73 (by omega)
  replace f43 := f43.c g73 (by omega)
  replace f51 := f51.c g73 (by omega)
  replace f72 := f72.c g73 (by omega)
  clear f67
  refine wl_p (fun _ => o_move rfl) ?_
  refine wl_p (fun _ => o_ext20 rfl) ?_
  refine wl_p (fun _ => o_ext21 rfl) ?_
  refine wl_p (fun _ => o_assign rfl) ?_
  refine wl_p (fun _ => o_assign rfl) ?_
  refine wl_nil ?_
  refine rk_seq ?_
  refine rk_region ?_
  refine wl_p (fun _ => o_move rfl) ?_
  refine wl_litZH [1] (by rfl) rfl rfl (by rfl) (by rfl) (by rfl) ?_
  rintro A78 w78 f78 b78
  have qf78 := f78.cap
  have s78 := b78.size
  replace hw := hw.trans (b78.mono hw.size)
  replace f72 := f72.u b78
  replace f51 := f51.u b78
  replace f43 := f43.u b78
  replace f37 := f37.u b78
  replace f56 := f56.u b78
  replace f67_1 := f67_1.u b78
  replace f73 := f73.u b78
  refine wl_call rfl (C_pKeepNo _ f73 f78.to_RZ (by rfl) (by omega) hk2 (by decide)) ?_
  rintro v79 w79 ⟨rfl, b79⟩
  have s79 := b79.size
  replace hw := hw.trans (b79.mono hw.size)
  replace f73 := f73.u b79
  replace f67_1 := f67_1.u b79
  replace f56 := f56.u b79
  replace f37 := f37.u b79
  replace f43 := f43.u b79
  replace f51 := f51.u b79
  replace f72 := f72.u b79
  replace f78 := f78.u b79
  refine wl_p (fun _ => o_move rfl) ?_
  refine wl_p (fun _ => o_ext20 rfl) ?_
  refine wl_p (fun _ => o_ext21 rfl) ?_
  refine wl_p (fun _ => o_assign rfl) ?_
  refine wl_p (fun _ => o_assign rfl) ?_
  refine wl_nil ?_
  refine rk_seq ?_
  refine rk_region ?_
  refine wl_litC [120] Tryd.u8 Tryd.sizeOf5 Tryd.zeroValue5 (by rfl) rfl rfl (by rfl) (by rfl) (by rfl) ?_
  rintro A83 w83 f83 b83
  have s83 := b83.size
  replace hw := hw.trans (b83.mono hw.size)
  replace f78 := f78.u b83
  replace f72 := f72.u b83
  replace f51 := f51.u b83
  replace f43 := f43.u b83
  replace f37 := f37.u b83
  replace f56 := f56.u b83
  replace f67_1 := f67_1.u b83
  replace f73 := f73.u b83
  refine wl_call rfl (C_pBytesOk _ f83.to_Rd (by omega) hp7 (by omega) (by rfl) (by simp)) ?_
  rintro v85 w85 ⟨A85, ⟨c85, ⟨rfl, ⟨f85, ⟨e85, ⟨i85, ⟨i85_1, b85⟩⟩⟩⟩⟩⟩⟩
  have s85 := b85.size
  replace hw := hw.trans (b85.mono hw.size)
  replace f73 := f73.u b85
  replace f67_1 := f67_1.u b85
  replace f56 := f56.u b85
  replace f37 := f37.u b85
  replace f43 := f43.u b85
  replace f51 := f51.u b85
  replace f72 := f72.u b85
  replace f78 := f78.u b85
  replace f83 := f83.u b85
  refine wl_p (fun _ => o_move rfl) ?_
  refine wl_p (fun _ => o_ext20 rfl) ?_
  refine wl_p (fun _ => o_ext21 rfl) ?_
  refine wl_p (fun _ => o_assign rfl) ?_
  refine wl_p (fun _ => o_assign rfl) ?_
  refine wl_nil ?_
  refine rk_seq ?_
  refine rk_region ?_
  refine wl_call rfl (C_pBytesBad _ (by omega)) ?_
  rintro v89 w89 ⟨rfl, b89⟩
  have s89 := b89.size
  replace hw := hw.trans (b89.mono hw.size)
  replace f83 := f83.u b89
  replace f78 := f78.u b89
  replace f72 := f72.u b89
  replace f51 := f51.u b89
  replace f43 := f43.u b89
  replace f37 := f37.u b89
  replace f56 := f56.u b89
  replace f67_1 := f67_1.u b89
  replace f73 := f73.u b89
  replace f85 := f85.u b89
  refine wl_p (fun _ => o_move rfl) ?_
  refine wl_p (fun _ => o_ext20 rfl) ?_
  refine wl_p (fun _ => o_ext21 rfl) ?_
  refine wl_p (fun _ => o_assign rfl) ?_
  refine wl_p (fun _ => o_assign rfl) ?_
  refine wl_nil ?_
  refine rk_seq ?_
  refine rk_region ?_
  refine wl_call rfl (C_pBytesBad _ (by omega)) ?_
  rintro v93 w93 ⟨rfl, b93⟩
  have s93 := b93.size
  replace hw := hw.trans (b93.mono hw.size)
  replace f85 := f85.u b93
  replace f73 := f73.u b93
  replace f67_1 := f67_1.u b93
  replace f56 := f56.u b93
  replace f37 := f37.u b93
  replace f43 := f43.u b93
  replace f51 := f51.u b93
  replace f72 := f72.u b93
  replace f78 := f78.u b93
  replace f83 := f83.u b93
  refine wl_p (fun _ => o_move rfl) ?_
  refine wl_p (fun _ => o_ext20 rfl) ?_
  refine wl_p (fun _ => o_ext21 rfl) ?_
  refine wl_p (fun _ => o_assign rfl) ?_
  refine wl_p (fun _ => o_assign rfl) ?_
  refine wl_nil ?_
  refine rk_seq ?_
  refine rk_region ?_
  dsimp only [List.append]
  refine wl_call rfl (C_lives10 _ (hT.u hw)) ?_
  rintro v96 w96 ⟨rfl, b96⟩
  have s96 := b96.size
  replace hw := hw.trans (b96.mono hw.size)
  replace f83 := f83.u b96
  replace f78 := f78.u b96
  replace f72 := f72.u b96
  replace f51 := f51.u b96
  replace f43 := f43.u b96
  replace f37 := f37.u b96
  replace f56 := f56.u b96
  replace f67_1 := f67_1.u b96
  replace f73 := f73.u b96
  replace f85 := f85.u b96
  refine wl_p (fun _ => o_move rfl) ?_
  refine wl_p (fun _ => o_move rfl) ?_
  refine wl_p (fun _ => o_eq rfl rfl) ?_
  refine wl_p (fun _ => o_pick_t rfl rfl) ?_
  refine wl_p (fun _ => o_move rfl) ?_
  refine wl_p (fun _ => o_move rfl) ?_
  refine wl_p (fun _ => o_eq rfl rfl) ?_
  refine wl_p (fun _ => o_pick_t rfl rfl) ?_
  refine wl_p (fun _ => o_move rfl) ?_
  refine wl_p (fun _ => o_move rfl) ?_
  refine wl_p (fun _ => o_eq rfl rfl) ?_
  refine wl_p (fun _ => o_pick_t rfl rfl) ?_
  refine wl_p (fun _ => o_move rfl) ?_
  refine wl_p (fun _ => o_move rfl) ?_
  refine wl_p (fun _ => o_eq rfl rfl) ?_
  refine wl_p (fun _ => o_pick_t rfl rfl) ?_
  refine wl_p (fun _ => o_move rfl) ?_
  refine wl_p (fun _ => o_move rfl) ?_
  refine wl_p (fun _ => o_eq rfl rfl) ?_
  refine wl_p (fun _ => o_pick_t rfl rfl) ?_
  refine wl_p (fun _ => o_move rfl) ?_
  refine wl_p (fun _ => o_move rfl) ?_
  refine wl_p (fun _ => o_eq rfl rfl) ?_
  refine wl_p (fun _ => o_pick_t rfl rfl) ?_
  refine wl_p (fun _ => o_move rfl) ?_
  refine wl_p (fun _ => o_move rfl) ?_
  refine wl_p (fun _ => o_eq rfl rfl) ?_
  refine wl_p (fun _ => o_pick_t rfl rfl) ?_
  refine wl_p (fun _ => o_move rfl) ?_
  refine wl_p (fun _ => o_move rfl) ?_
  refine wl_p (fun _ => o_eq rfl rfl) ?_
  refine wl_p (fun _ => o_pick_t rfl rfl) ?_
  refine wl_p (fun _ => o_move rfl) ?_
  refine wl_p (fun _ => o_move rfl) ?_
  refine wl_p (fun _ => o_eq rfl rfl) ?_
  refine wl_p (fun _ => o_pick_t rfl rfl) ?_
  refine wl_p (fun _ => o_move rfl) ?_
  refine wl_p (fun _ => o_move rfl) ?_
  refine wl_p (fun _ => o_eq rfl rfl) ?_
  refine wl_p (fun _ => o_pick_t rfl rfl) ?_
  refine wl_p (fun _ => o_move rfl) ?_
  refine wl_p (fun _ => o_move rfl) ?_
  refine wl_p (fun _ => o_eq rfl rfl) ?_
  refine wl_p (fun _ => o_pick_t rfl rfl) ?_
  refine wl_p (fun _ => o_move rfl) ?_
  refine wl_p (fun _ => o_move rfl) ?_
  refine wl_p (fun _ => o_len (t := 22) Tryd.underlying22 rfl) ?_
  refine wl_p (fun _ => o_eq rfl rfl) ?_
  refine wl_p (fun _ => o_pick_t rfl rfl) ?_
  refine wl_p (fun _ => o_move rfl) ?_
  refine wl_p (fun _ => o_move rfl) ?_
  refine wl_p (fun _ => (o_iaddrA1 (12) Tryd.underlying22 Tryd.sizeOf5 rfl rfl (by omega) (Reads.some_ f85.to_Reads (by decide) (by omega)) (by omega))) ?_
  refine wl_r (o_loadB Tryd.isAgg5 rfl f85.to_Rd (by omega)) ?_
  refine wl_p (fun _ => o_eq rfl rfl) ?_
  refine wl_p (fun _ => o_pick_t rfl rfl) ?_
  refine wl_p (fun _ => o_move rfl) ?_
  refine wl_know 152 true rfl (decide_eq_true (by omega)) ?_
  refine wl_p (fun _ => o_move rfl) ?_
  refine wl_p (fun _ => o_eq rfl rfl) ?_
  refine wl_p (fun _ => o_pick_t rfl rfl) ?_
  refine wl_p (fun _ => o_move rfl) ?_
  refine wl_p (fun _ => o_move rfl) ?_
  refine wl_p (fun _ => o_eq rfl rfl) ?_
  refine wl_p (fun _ => o_pick_t rfl rfl) ?_
  refine wl_p (fun _ => o_move rfl) ?_
  refine wl_p (fun _ => o_move rfl) ?_
  refine wl_call rfl (C_pSpare _ f73 hs1) ?_
  rintro v162 w162_1 ⟨rfl, b162⟩
  have s162 := b162.size
  replace hw := hw.trans (b162.mono hw.size)
  replace f85 := f85.u b162
  replace f73 := f73.u b162
  replace f67_1 := f67_1.u b162
  replace f56 := f56.u b162
  replace f37 := f37.u b162
  replace f43 := f43.u b162
  replace f51 := f51.u b162
  replace f72 := f72.u b162
  replace f78 := f78.u b162
  replace f83 := f83.u b162
  refine wl_p (fun _ => o_eq rfl rfl) ?_
  refine wl_p (fun _ => o_pick_t rfl rfl) ?_
  refine wl_p (fun _ => o_move rfl) ?_
  refine wl_p (fun _ => o_move rfl) ?_
  refine wl_call rfl (C_pUsed _ (hT.u hw) f73 hI) ?_
  rintro v167 w167_1 ⟨A167, ⟨c167, ⟨rfl, ⟨f167, b167⟩⟩⟩⟩
  have qf167 := f167.cap
  have s167 := b167.size
  replace hw := hw.trans (b167.mono hw.size)
  replace f83 := f83.u b167
  replace f78 := f78.u b167
  replace f72 := f72.u b167
  replace f51 := f51.u b167
  replace f43 := f43.u b167
  replace f37 := f37.u b167
  replace f56 := f56.u b167
  replace f67_1 := f67_1.u b167
  replace f73 := f73.u b167
  replace f85 := f85.u b167
  refine wl_litZH [0] (by rfl) rfl rfl (by rfl) (by rfl) (by rfl) ?_
  rintro A168 w168 f168 b168
  have qf168 := f168.cap
  have s168 := b168.size
  replace hw := hw.trans (b168.mono hw.size)
  replace f85 := f85.u b168
  replace f73 := f73.u b168
  replace f67_1 := f67_1.u b168
  replace f56 := f56.u b168
  replace f37 := f37.u b168
  replace f43 := f43.u b168
  replace f51 := f51.u b168
  replace f72 := f72.u b168
  replace f78 := f78.u b168
  replace f83 := f83.u b168
  replace f167 := f167.u b168
  refine wl_call rfl (C_IntsZ _ f167.to_RZ f168.to_RZ rfl (by rfl) (by omega) (by omega)) ?_
  rintro v169 w169 ⟨rfl, b169⟩
  have s169 := b169.size
  replace hw := hw.trans (b169.mono hw.size)
  replace f167 := f167.u b169
  replace f83 := f83.u b169
  replace f78 := f78.u b169
  replace f72 := f72.u b169
  replace f51 := f51.u b169
  replace f43 := f43.u b169
  replace f37 := f37.u b169
  replace f56 := f56.u b169
  replace f67_1 := f67_1.u b169
  replace f73 := f73.u b169
  replace f85 := f85.u b169
  replace f168 := f168.u b169
  refine wl_p (fun _ => o_pick_t rfl rfl) ?_
  refine wl_p (fun _ => o_move rfl) ?_
  refine wl_p (fun _ => o_pick_t rfl rfl) ?_
  refine wl_p (fun _ => o_assign rfl) ?_
  refine wl_nil ?_
  refine ret1 rfl rfl ?_
  exact ⟨rfl, hw⟩
end Go.Proofs.YtklijaahbahcoaaDoor
/-
  Walks: PagesApart.
-/
namespace Go.Proofs.YtklijaahbahcoaaDoor
set_option maxRecDepth 100000
open Go.RowKit
theorem C_PickP {n m r : Int} (w : World) (hr : pick n m = r) (wn : (Lit.int .i64 n).wf = true) (wm : (Lit.int .i64 m).wf = true) :
    CallsR Tryd.prog 8 [.int .i64 n, .int .i64 m] w fun v w' => v = .int .i64 r ∧ w' = w := by
  subst hr
  exact C_Pick n m wn wm w
theorem wrC_snd {S : List Sec} {C : List (Option Sec)} {i : Nat} {b : By} (h : i < S.length) (hb : b.length = 256) : (wrC S C (i : Int) b).2 = 0 := by rw [wrC_at h hb]
set_option maxRecDepth 100000 in
set_option maxHeartbeats 1000000 in
theorem C_PagesApart {n0 m0 at0 : Int} {A : Option Addr} {body : By} {by0 : UInt8} {x : Int} {c : Nat} (w : World) (wn : (Lit.int .i64 n0).wf = true) (wm : (Lit.int .i64 m0).wf = true) (hB : Rd w A body) (hm : body.length ≤ c) (hcm : c ≤ maxLen) (wa : (Lit.int .i64 at0).wf = true) (hx : x = (by0.toNat : Int)) (hT : TabAt0 w 0) :
    CallsR Tryd.prog 3 [.int .i64 n0, .int .i64 m0, .slice A body.length c, .int .i64 at0, .int .u8 x] w fun v w' => v = .bool true ∧ Below w.heap.size w w' := by
  subst hx
  have w30 : (Lit.int .i64 30).wf = true := by decide
  have w512 : (Lit.int .i64 512).wf = true := by decide
  have hpk := pick_range n0 30 (by omega)
  have hpm := pick_range m0 30 (by omega)
  have hpa := pick_range at0 512 (by omega)
  obtain ⟨k, hk⟩ : ∃ k : Nat, pick n0 30 = (k : Int) := ⟨(pick n0 30).toNat, by omega⟩
  obtain ⟨m, hmm⟩ : ∃ m : Nat, pick m0 30 = (m : Int) := ⟨(pick m0 30).toNat, by omega⟩
  obtain ⟨i, hi⟩ : ∃ i : Nat, pick at0 512 = (i : Int) := ⟨(pick at0 512).toNat, by omega⟩
  have hgd : 0 < w.heap.size := hT.lt
  obtain ⟨Z, hZ⟩ : ∃ Z : List Sec, List.replicate 60 z256 = Z := ⟨_, rfl⟩
  obtain ⟨Q, hQ⟩ : ∃ Q : List (Option Sec), List.replicate 60 none = Q := ⟨_, rfl⟩
  have hZl : Z.length = 60 := by rw [← hZ, List.length_replicate]
  have hQl : Q.length = 60 := by rw [← hQ, List.length_replicate]
  have hm30 : Z.length / 2 = 30 := by rw [hZl]
  have ho : openOk 30 [(m : Int)] = true := by simp [openOk]; omega
  obtain ⟨U, hU⟩ : ∃ U, markAll (List.replicate 30 false) [(m : Int)] = U := ⟨_, rfl⟩
  have hUl : U.length = 30 := by rw [← hU, markAll_len, List.length_replicate]
  have hUm : U.getD m false = true := by
    rw [← hU]; show ((List.replicate 30 false).set m true).getD m false = true
    rw [getD_set _ _ _ _ (by rw [List.length_replicate]; omega), if_pos rfl]
  refine callsR Tryd.func3 rfl rfl (by kernel_rfl) rfl ?_
  have hw := Below.refl w.heap.size w
  by_cases h5 : 500 < body.length
  · refine rk_seq ?_
    refine rk_region ?_
    refine wl_p (fun _ => o_assign rfl) ?_
    refine wl_nil ?_
    refine rk_seq ?_
    refine rk_seq ?_
    refine rk_region ?_
    refine wl_call rfl (C_lives10 _ hT) ?_
    rintro v25 w25 ⟨rfl, b25⟩
    have s25 := b25.size
    replace hw := hw.trans (b25.mono hw.size)
    refine wl_p (fun _ => o_not rfl) ?_
    refine wl_nil ?_
    refine rk_false rfl ?_
    refine rk_skip ?_
    refine rk_seq ?_
    refine rk_seq ?_
    refine rk_region ?_
    refine wl_p (fun _ => o_move rfl) ?_
    refine wl_p (fun _ => o_len (t := 22) Tryd.underlying22 rfl) ?_
    refine wl_p (fun _ => o_gt rfl rfl) ?_
    refine wl_nil ?_
    refine rk_if rfl (fun h29 => ?_) (fun h29 => h29.elim (by omega))
    refine rk_seq ?_
    refine rk_region ?_
    refine wl_p (fun _ => o_assign rfl) ?_
    refine wl_nil ?_
    refine ret1 rfl rfl ?_
    exact ⟨rfl, hw⟩
  obtain ⟨a, ha⟩ : ∃ a, pageL k body = a := ⟨_, rfl⟩
  obtain ⟨b, hb⟩ : ∃ b, pageL m body = b := ⟨_, rfl⟩
  obtain ⟨bd, hbd⟩ : ∃ bd, bodyL body = bd := ⟨_, rfl⟩
  have hbdl : bd.length = 500 := by rw [← hbd]; exact bodyL_len (by omega)
  have hal : a.length = 512 := by rw [← ha]; exact pageL_len k (by omega)
  have hbl : b.length = 512 := by rw [← hb]; exact pageL_len m (by omega)
  have had : a.drop 12 = bd := by rw [← ha, pageL_drop, hbd]
  have hbd2 : b.drop 12 = bd := by rw [← hb, pageL_drop, hbd]
  have hpb : pageL m bd = b := by rw [← hbd, pageL_body m (by omega), hb]
  obtain ⟨q1, hq1⟩ : ∃ q, wrC Z Q (2 * (m : Int)) (a.take 256) = q := ⟨_, rfl⟩
  obtain ⟨q2, hq2⟩ : ∃ q, wrC Z q1.1 (2 * (m : Int) + 1) (a.drop 256) = q := ⟨_, rfl⟩
  have hN : newC Z Q m a = q2.1 := by rw [newC, hq1, hq2]
  have hq2l : q2.1.length = 60 := by rw [← hN, newC_len, hQl]
  obtain ⟨X, hX⟩ : ∃ X, cur Z q2.1 = X := ⟨_, rfl⟩
  have hpg : pgAll X m = a := by
    have := cur_newC (S := Z) (C := Q) (k := m) (p := a) (by omega) (by omega) hal m
    rw [if_pos rfl, hN, hX] at this; exact this
  obtain ⟨r1, hr1⟩ : ∃ r, readP X U (m : Int) = r := ⟨_, rfl⟩
  have hr1e : r1 = if b = a then (bd, 0) else ([], 4) := by
    rw [← hr1, readP, usdAt, Int.toNat_natCast, hUm, decide_eq_true (by omega), Bool.and_self, if_pos rfl, hpg, had, hpb]
  have wa1 : (Lit.int .i64 (2 * (m : Int))).wf = true := wf_small (by omega) (by omega)
  have wa2 : (Lit.int .i64 (2 * (m : Int) + 1)).wf = true := wf_small (by omega) (by omega)
  have wm1 : (Lit.int .i64 (m : Int)).wf = true := wf_small (by omega) (by omega)
  refine rk_seq ?_
  refine rk_region ?_
  refine wl_p (fun _ => o_assign rfl) ?_
  refine wl_nil ?_
  refine rk_seq ?_
  refine rk_seq ?_
  refine rk_region ?_
  refine wl_call rfl (C_lives10 _ hT) ?_
  rintro v25 w25 ⟨rfl, b25⟩
  have s25 := b25.size
  replace hw := hw.trans (b25.mono hw.size)
  refine wl_p (fun _ => o_not rfl) ?_
  refine wl_nil ?_
  refine rk_false rfl ?_
  refine rk_skip ?_
  refine rk_seq ?_
  refine rk_seq ?_
  refine rk_region ?_
  refine wl_p (fun _ => o_move rfl) ?_
  refine wl_p (fun _ => o_len (t := 22) Tryd.underlying22 rfl) ?_
  refine wl_p (fun _ => o_gt rfl rfl) ?_
  refine wl_nil ?_
  refine rk_if rfl (fun h29 => absurd h29 (by omega)) (fun h29 => ?_)
  refine rk_skip ?_
  refine rk_seq ?_
  refine rk_region ?_
  refine wl_p (fun _ => o_move rfl) ?_
  refine wl_call rfl (C_PickR _ hk wn w30) ?_
  rintro v31 w31 ⟨rfl, b31⟩
  have s31 := b31.size
  replace hw := hw.trans (b31.mono hw.size)
  refine wl_p (fun _ => o_move rfl) ?_
  refine wl_call rfl (C_PickR _ hmm wm w30) ?_
  rintro v33 w33 ⟨rfl, b33⟩
  have s33 := b33.size
  replace hw := hw.trans (b33.mono hw.size)
  refine wl_p (fun _ => o_assign rfl) ?_
  refine wl_p (fun _ => o_assign rfl) ?_
  refine wl_nil ?_
  refine rk_seq ?_
  refine rk_region ?_
  refine wl_p (fun _ => o_move rfl) ?_
  refine wl_p (fun _ => o_move rfl) ?_
  refine wl_call rfl (C_OwnP _ (hB.u hw) rfl (by omega)) ?_
  rintro v37 w37 ⟨A37, ⟨c37, ⟨rfl, ⟨f37, b37⟩⟩⟩⟩
  have qf37 := f37.cap
  have s37 := b37.size
  replace hw := hw.trans (b37.mono hw.size)
  refine wl_call rfl (C_pBytesOk _ f37.to_Rd rfl ha (by omega) rfl (by omega)) ?_
  rintro v38 w38 ⟨A38, ⟨c38, ⟨rfl, ⟨f38, ⟨e38, ⟨i38, ⟨i38_1, b38⟩⟩⟩⟩⟩⟩⟩
  have s38 := b38.size
  replace hw := hw.trans (b38.mono hw.size)
  replace f37 := f37.u b38
  refine wl_p (fun _ => o_move rfl) ?_
  refine wl_p (fun _ => o_ext20 rfl) ?_
  refine wl_p (fun _ => o_ext21 rfl) ?_
  refine wl_p (fun _ => o_assign rfl) ?_
  refine wl_p (fun _ => o_assign rfl) ?_
  refine wl_nil ?_
  refine rk_seq ?_
  refine rk_region ?_
  refine wl_p (fun _ => o_move rfl) ?_
  refine wl_p (fun _ => o_move rfl) ?_
  refine wl_call rfl (C_OwnP _ (hB.u hw) rfl (by omega)) ?_
  rintro v44 w44 ⟨A44, ⟨c44, ⟨rfl, ⟨f44, b44⟩⟩⟩⟩
  have qf44 := f44.cap
  have s44 := b44.size
  replace hw := hw.trans (b44.mono hw.size)
  replace f37 := f37.u b44
  replace f38 := f38.u b44
  refine wl_call rfl (C_pBytesOk _ f44.to_Rd rfl hb (by omega) rfl (by omega)) ?_
  rintro v45 w45 ⟨A45, ⟨c45, ⟨rfl, ⟨f45, ⟨e45, ⟨i45, ⟨i45_1, b45⟩⟩⟩⟩⟩⟩⟩
  have s45 := b45.size
  replace hw := hw.trans (b45.mono hw.size)
  replace f38 := f38.u b45
  replace f37 := f37.u b45
  replace f44 := f44.u b45
  refine wl_p (fun _ => o_move rfl) ?_
  refine wl_p (fun _ => o_ext20 rfl) ?_
  refine wl_p (fun _ => o_ext21 rfl) ?_
  refine wl_p (fun _ => o_assign rfl) ?_
  refine wl_p (fun _ => o_assign rfl) ?_
  refine wl_nil ?_
  refine rk_seq ?_
  refine rk_region ?_
  refine wl_call rfl (C_dNewOk _ (by omega) hZ hQ (by omega) (by omega)) ?_
  rintro v49 w49 ⟨g49, ⟨rfl, ⟨f49, b49⟩⟩⟩
  have s49 := b49.size
  replace hw := hw.trans (b49.mono hw.size)
  replace f44 := f44.u b49
  replace f37 := f37.u b49
  replace f38 := f38.u b49
  replace f45 := f45.u b49
  refine wl_p (fun _ => o_move rfl) ?_
  refine wl_p (fun _ => o_ext20 rfl) ?_
  refine wl_p (fun _ => o_ext21 rfl) ?_
  refine wl_p (fun _ => o_assign rfl) ?_
  refine wl_p (fun _ => o_assign rfl) ?_
  refine wl_nil ?_
  refine rk_seq ?_
  refine rk_region ?_
  refine wl_p (fun _ => o_move rfl) ?_
  refine wl_p (fun _ => o_move rfl) ?_
  refine wl_litZH [↑m] (by rfl) rfl rfl (by rfl) (by rfl) (by rfl) ?_
  rintro A55 w55 f55 b55
  have qf55 := f55.cap
  have s55 := b55.size
  replace hw := hw.trans (b55.mono hw.size)
  replace f45 := f45.u b55
  replace f38 := f38.u b55
  replace f37 := f37.u b55
  replace f44 := f44.u b55
  replace f49 := f49.u b55
  refine wl_call rfl (C_pOpenOk _ f49 f55.to_RZ (by rfl) (by omega) hm30 ho hU) ?_
  rintro v56 w56 ⟨g56, ⟨rfl, ⟨f56, ⟨i56, ⟨i56_1, b56⟩⟩⟩⟩⟩
  have s56 := b56.size
  replace hw := hw.trans (b56.mono hw.size)
  replace f49 := f49.u b56
  replace f44 := f44.u b56
  replace f37 := f37.u b56
  replace f38 := f38.u b56
  replace f45 := f45.u b56
  replace f55 := f55.u b56
  refine wl_p (fun _ => o_move rfl) ?_
  refine wl_p (fun _ => o_ext20 rfl) ?_
  refine wl_p (fun _ => o_ext21 rfl) ?_
  refine wl_p (fun _ => o_assign rfl) ?_
  refine wl_p (fun _ => o_assign rfl) ?_
  refine wl_nil ?_
  refine rk_seq ?_
  refine rk_seq ?_
  refine rk_draw (id := 10) (none) [0, 1, 2, 4, 12, 20, 36, 64, 192, 320, 576, 1024, 3072, 5120, 9216, 17408, 32768, 98304, 32768, 294912, 688128, 1081344, 2129920, 4194304, 12582912, 20971520, 4194304, 71303168, 138412032, 306184192, 541065216] [0, 1, 3, 7, 15, 31, 63, 127, 255, 511, 1023, 2047, 4095, 8191, 16383, 32767, 65535, 131071, 65535, 327679, 1048575, 2097151, 4194303, 8388607, 16777215, 33554431, 8388607, 75497471, 209715199, 536870911, 1073741823] 0 0 [(.p, 0), (.p, 1), (.p, 2), (.p, 3), (.p, 4), (.p, 5), (.p, 6), (.p, 7), (.p, 8), (.p, 9), (.p, 10), (.p, 11), (.p, 12), (.p, 13), (.p, 14), (.p, 15), (.p, 16), (.p, 17), (.p, 18), (.p, 19), (.p, 20), (.p, 21), (.p, 22), (.p, 23), (.p, 24), (.r, 25), (.p, 26), (.p, 27), (.r, 28), (.p, 29), (.p, 30)] (by kernel_rfl) (by kernel_rfl) (by kernel_rfl) (by kernel_rfl) (by kernel_rfl) ?_
  replace hw := hw.drew
  replace f55 := f55.d
  replace f45 := f45.d
  replace f38 := f38.d
  replace f37 := f37.d
  replace f44 := f44.d
  replace f49 := f49.d
  replace f56 := f56.d
  refine wl_p (fun _ => o_move rfl) ?_
  refine wl_p (fun _ => o_ne rfl rfl) ?_
  refine wl_p (fun _ => o_move rfl) ?_
  refine wl_p (fun _ => o_move rfl) ?_
  refine wl_p (fun _ => o_ne rfl rfl) ?_
  refine wl_p (fun _ => o_pick_f rfl rfl) ?_
  refine wl_p (fun _ => o_move rfl) ?_
  refine wl_p (fun _ => o_move rfl) ?_
  refine wl_p (fun _ => o_ne rfl rfl) ?_
  refine wl_p (fun _ => o_pick_f rfl rfl) ?_
  refine wl_p (fun _ => o_move rfl) ?_
  refine wl_p (fun _ => o_move rfl) ?_
  refine wl_p (fun _ => o_len (t := 22) Tryd.underlying22 rfl) ?_
  refine wl_p (fun _ => o_ne rfl rfl) ?_
  refine wl_p (fun _ => o_pick_f rfl rfl) ?_
  refine wl_p (fun _ => o_move rfl) ?_
  refine wl_p (fun _ => o_move rfl) ?_
  refine wl_p (fun _ => o_len (t := 22) Tryd.underlying22 rfl) ?_
  refine wl_p (fun _ => o_move rfl) ?_
  refine wl_p (fun _ => o_len (t := 22) Tryd.underlying22 rfl) ?_
  refine wl_p (fun _ => o_ne rfl rfl) ?_
  refine wl_p (fun _ => o_pick_f rfl rfl) ?_
  refine wl_p (fun _ => o_move rfl) ?_
  refine wl_p (fun _ => o_move rfl) ?_
  refine wl_slBl Tryd.u8 (12) rfl rfl f38.to_Rd (by omega) (by omega) (by omega) (by omega) ?_
  rintro A83 c83 f83 i83 i83_1
  refine wl_r (o_strU Tryd.underlying22 Tryd.underlying5 Tryd.underlying9 rfl f83 (Below.refl _ _) (by simp)) ?_
  refine wl_p (fun _ => o_move rfl) ?_
  refine wl_slBl Tryd.u8 (12) rfl rfl f45.to_Rd (by omega) (by omega) (by omega) (by omega) ?_
  rintro A86 c86 f86 i86 i86_1
  refine wl_r (o_strU Tryd.underlying22 Tryd.underlying5 Tryd.underlying9 rfl f86 (Below.refl _ _) (by simp)) ?_
  refine wl_p (fun _ => o_sne rfl rfl) ?_
  refine wl_p (fun _ => o_pick_f rfl rfl) ?_
  refine wl_nild ?_
  rw [show decide (a.drop 12 ≠ b.drop 12) = false from decide_eq_false (fun h => h (by rw [had, hbd2]))]
  have hba : b = a ↔ a.take 12 = b.take 12 := ⟨fun h => by rw [h], fun h => by
    rw [← List.take_append_drop 12 a, ← List.take_append_drop 12 b, h, had, hbd2]⟩
  obtain ⟨t, ht⟩ : ∃ t, b.set i (b[i]'(by omega) ^^^ by0) = t := ⟨_, rfl⟩
  have htl : t.length = 512 := by rw [← ht, List.length_set]; exact hbl
  obtain ⟨q3, hq3⟩ : ∃ q, wrC Z q2.1 (2 * (m : Int)) (t.take 256) = q := ⟨_, rfl⟩
  obtain ⟨q4, hq4⟩ : ∃ q, wrC Z q3.1 (2 * (m : Int) + 1) (t.drop 256) = q := ⟨_, rfl⟩
  have hN2 : newC Z q2.1 m t = q4.1 := by rw [newC, hq3, hq4]
  obtain ⟨Y, hY⟩ : ∃ X, cur Z q4.1 = X := ⟨_, rfl⟩
  have hpg2 : pgAll Y m = t := by
    have := cur_newC (S := Z) (C := q2.1) (k := m) (p := t) (by omega) (by omega) htl m
    rw [if_pos rfl, hN2, hY] at this; exact this
  obtain ⟨y, hy⟩ : ∃ y, t.drop 12 = y := ⟨_, rfl⟩
  have hyl : y.length = 500 := by rw [← hy, List.length_drop]; omega
  obtain ⟨r2, hr2⟩ : ∃ r, readP Y U (m : Int) = r := ⟨_, rfl⟩
  obtain ⟨z, hz⟩ : ∃ z, pageL m y = z := ⟨_, rfl⟩
  have hr2e : r2 = if z = t then (y, 0) else ([], 4) := by
    rw [← hr2, readP, usdAt, Int.toNat_natCast, hUm, decide_eq_true (by omega), Bool.and_self, if_pos rfl, hpg2, hy, hz]
  have hby : z ≠ t → by0 ≠ 0 := fun h e => h (by
    have : t = b := by rw [← ht, e]; simp
    rw [← hz, ← hy, this, hbd2, hpb])
  have hi2 : pick at0 ((b.length : Nat) : Int) = (i : Int) := by rw [hbl]; exact hi
  have wbl : (Lit.int .i64 ((b.length : Nat) : Int)).wf = true := by rw [hbl]; decide
  subst ht
  by_cases he : b = a
  · rw [if_pos he] at hr1e
    have htk := hba.1 he
    subst hr1e
    refine rk_false rfl ?_
    refine rk_skip ?_
    refine rk_seq ?_
    refine rk_region ?_
    refine wl_p (fun _ => o_move rfl) ?_
    refine wl_p (fun _ => o_move rfl) ?_
    refine wl_p (fun _ => o_mul rfl rfl (by omega) (by omega)) ?_
    refine wl_p (fun _ => o_move rfl) ?_
    refine wl_slBh Tryd.u8 (256) rfl rfl f38.to_Rd (by omega) (by omega) (by omega) (by omega) ?_
    rintro f94
    refine wl_call rfl (C_OwnP _ f94 (by simp; omega) (by simp; omega)) ?_
    rintro v95 w95 ⟨A95, ⟨c95, ⟨rfl, ⟨f95, b95⟩⟩⟩⟩
    simp only [drew_size] at f95
    simp only [drew_size] at b95
    have qf95 := f95.cap
    have s95 := b95.size
    simp only [drew_size] at s95
    replace hw := hw.trans (b95.mono hw.size)
    replace f94 := f94.u b95
    replace f86 := f86.u b95
    replace f83 := f83.u b95
    replace f56 := f56.u b95
    replace f49 := f49.u b95
    replace f44 := f44.u b95
    replace f37 := f37.u b95
    replace f38 := f38.u b95
    replace f45 := f45.u b95
    replace f55 := f55.u b95
    refine wl_call rfl (C_dWriteN _ f49 f95.to_Rd hq1 wa1 rfl (by omega)) ?_
    rintro v96 w96 ⟨rfl, ⟨f96, g96⟩⟩
    have s96 := g96.size
    replace hw := hw.trans (g96.below hw.size (by omega))
    replace f55 := f55.c g96 (by omega)
    replace f45 := f45.c g96 (by omega)
    replace f38 := f38.c g96 (by omega)
    replace f37 := f37.c g96 (by omega)
    replace f44 := f44.c g96 (by omega)
    replace f56 := f56.c g96 (by omega)
    replace f95 := f95.c g96 (by omega)
    clear f49
    clear f83
    clear f86
    clear f94
    refine wl_nil ?_
    refine rk_seq ?_
    refine rk_region ?_
    refine wl_p (fun _ => o_move rfl) ?_
    refine wl_p (fun _ => o_move rfl) ?_
    refine wl_p (fun _ => o_mul rfl rfl (by omega) (by omega)) ?_
    refine wl_p (fun _ => o_add rfl rfl (by omega) (by omega)) ?_
    refine wl_p (fun _ => o_move rfl) ?_
    refine wl_slBl Tryd.u8 (256) rfl rfl f38.to_Rd (by omega) (by omega) (by omega) (by omega) ?_
    rintro A102 c102 f102 i102 i102_1
    refine wl_call rfl (C_OwnP _ f102 (by simp) (by simp; omega)) ?_
    rintro v103 w103 ⟨A103, ⟨c103, ⟨rfl, ⟨f103, b103⟩⟩⟩⟩
    have qf103 := f103.cap
    have s103 := b103.size
    replace hw := hw.trans (b103.mono hw.size)
    replace f102 := f102.u b103
    replace f95 := f95.u b103
    replace f56 := f56.u b103
    replace f44 := f44.u b103
    replace f37 := f37.u b103
    replace f38 := f38.u b103
    replace f45 := f45.u b103
    replace f55 := f55.u b103
    replace f96 := f96.u b103
    refine wl_call rfl (C_dWriteN _ f96 f103.to_Rd hq2 wa2 rfl (by omega)) ?_
    rintro v104 w104 ⟨rfl, ⟨f104, g104⟩⟩
    have s104 := g104.size
    replace hw := hw.trans (g104.below hw.size (by omega))
    replace f55 := f55.c g104 (by omega)
    replace f45 := f45.c g104 (by omega)
    replace f38 := f38.c g104 (by omega)
    replace f37 := f37.c g104 (by omega)
    replace f44 := f44.c g104 (by omega)
    replace f56 := f56.c g104 (by omega)
    replace f95 := f95.c g104 (by omega)
    replace f103 := f103.c g104 (by omega)
    clear f96
    clear f102
    refine wl_nil ?_
    refine rk_seq ?_
    refine rk_region ?_
    refine wl_p (fun _ => o_move rfl) ?_
    refine wl_p (fun _ => o_move rfl) ?_
    refine wl_call rfl (C_pRead _ f56 f104 hX hr1 (by omega) wm1) ?_
    rintro v108 w108 ⟨A108, ⟨c108, ⟨rfl, ⟨f108, ⟨i108, b108⟩⟩⟩⟩⟩
    dsimp only at f108
    dsimp only at i108
    dsimp only
    have s108 := b108.size
    replace hw := hw.trans (b108.mono hw.size)
    replace f103 := f103.u b108
    replace f95 := f95.u b108
    replace f56 := f56.u b108
    replace f44 := f44.u b108
    replace f37 := f37.u b108
    replace f38 := f38.u b108
    replace f45 := f45.u b108
    replace f55 := f55.u b108
    replace f104 := f104.u b108
    refine wl_p (fun _ => o_move rfl) ?_
    refine wl_p (fun _ => o_ext20 rfl) ?_
    refine wl_p (fun _ => o_ext21 rfl) ?_
    refine wl_p (fun _ => o_assign rfl) ?_
    refine wl_p (fun _ => o_assign rfl) ?_
    refine wl_nil ?_
    refine rk_seq ?_
    refine rk_draw (id := 15) (none) [0, 1, 2, 0, 8, 16, 36, 127] [0, 1, 3, 0, 8, 24, 63, 127] 0 0 [(.p, 0), (.p, 1), (.r, 2), (.p, 3), (.p, 4), (.r, 5), (.p, 6), (.p, 7)] (by kernel_rfl) (by kernel_rfl) (by kernel_rfl) (by kernel_rfl) (by kernel_rfl) ?_
    replace hw := hw.drew
    replace f104 := f104.d
    replace f55 := f55.d
    replace f45 := f45.d
    replace f38 := f38.d
    replace f37 := f37.d
    replace f44 := f44.d
    replace f56 := f56.d
    replace f95 := f95.d
    replace f103 := f103.d
    replace f108 := f108.d
    refine wl_p (fun _ => o_move rfl) ?_
    refine wl_slBh Tryd.u8 (12) rfl rfl f38.to_Rd (by omega) (by omega) (by omega) (by omega) ?_
    rintro f112
    refine wl_r (o_strU Tryd.underlying22 Tryd.underlying5 Tryd.underlying9 rfl f112 (Below.refl _ _) (by simp; omega)) ?_
    refine wl_p (fun _ => o_move rfl) ?_
    refine wl_slBh Tryd.u8 (12) rfl rfl f45.to_Rd (by omega) (by omega) (by omega) (by omega) ?_
    rintro f115
    refine wl_r (o_strU Tryd.underlying22 Tryd.underlying5 Tryd.underlying9 rfl f115 (Below.refl _ _) (by simp; omega)) ?_
    refine wl_p (fun _ => o_seq rfl rfl) ?_
    refine wl_p (fun _ => o_assign rfl) ?_
    refine wl_nild ?_
    refine rk_seq ?_
    refine rk_seq ?_
    refine rk_draw (id := 16) (none) [0, 1, 0, 6, 8, 16, 48, 80, 128, 384, 128, 1152, 2176, 4736, 8336, 16400, 32896, 65536, 196608, 327680, 524288, 1572864, 2686976, 4259840, 8912896, 16777216, 16777216, 117440512, 150994944, 268435456, 805306368, 1358954496, 2164260864] [0, 1, 0, 7, 15, 31, 63, 127, 255, 511, 255, 1279, 3327, 8191, 16383, 32767, 65535, 131071, 262143, 524287, 1048575, 2097151, 4194303, 8388607, 16777215, 33554431, 33554431, 134217727, 268435455, 536870911, 1073741823, 2147483647, 4294967295] 0 0 [(.p, 0), (.p, 1), (.p, 2), (.p, 3), (.p, 4), (.p, 5), (.p, 6), (.p, 7), (.p, 8), (.r, 9), (.p, 10), (.p, 11), (.r, 12), (.p, 13), (.p, 14), (.p, 15), (.p, 16), (.p, 17), (.p, 18), (.p, 19), (.p, 20), (.p, 21), (.p, 22), (.p, 23), (.p, 24), (.p, 25), (.p, 26), (.p, 27), (.p, 28), (.p, 29), (.p, 30), (.p, 31), (.p, 32)] (by kernel_rfl) (by kernel_rfl) (by kernel_rfl) (by kernel_rfl) (by kernel_rfl) ?_
    replace hw := hw.drew
    replace f115 := f115.d
    replace f112 := f112.d
    replace f108 := f108.d
    replace f103 := f103.d
    replace f95 := f95.d
    replace f56 := f56.d
    replace f44 := f44.d
    replace f37 := f37.d
    replace f38 := f38.d
    replace f45 := f45.d
    replace f55 := f55.d
    replace f104 := f104.d
    refine wl_p (fun _ => o_move rfl) ?_
    refine wl_p (fun _ => o_eq rfl rfl) ?_
    refine wl_p (fun _ => o_move rfl) ?_
    refine wl_p (fun _ => o_bne (t := 4) Tryd.underlying4 rfl rfl) ?_
    refine wl_p (fun _ => o_move rfl) ?_
    refine wl_know 122 false rfl (by simp; omega) ?_
    refine wl_p (fun _ => o_move rfl) ?_
    refine wl_p (fun _ => o_eq rfl rfl) ?_
    refine wl_p (fun _ => o_move rfl) ?_
    refine wl_p (fun _ => o_move rfl) ?_
    refine wl_r (o_strU Tryd.underlying22 Tryd.underlying5 Tryd.underlying9 rfl f108.to_Rd (Below.refl _ _) rfl) ?_
    refine wl_p (fun _ => o_move rfl) ?_
    refine wl_slBl Tryd.u8 (12) rfl rfl f45.to_Rd (by omega) (by omega) (by omega) (by omega) ?_
    rintro A129 c129 f129 i129 i129_1
    refine wl_r (o_strU Tryd.underlying22 Tryd.underlying5 Tryd.underlying9 rfl f129 (Below.refl _ _) (by simp)) ?_
    refine wl_p (fun _ => o_sne rfl rfl) ?_
    refine wl_p (fun _ => o_pick_t rfl rfl) ?_
    refine wl_p (fun _ => o_pick_f rfl rfl) ?_
    refine wl_p (fun _ => o_move rfl) ?_
    rw [show decide (bd ≠ b.drop 12) = false from decide_eq_false (fun h => h hbd2.symm)]
    by_cases hkm : k = m
    · refine wl_p (fun _ => o_move rfl) ?_
      refine wl_p (fun _ => o_ne rfl rfl) ?_
      refine wl_p (fun _ => o_move rfl) ?_
      refine wl_off ?_
      refine wl_off ?_
      refine wl_p (fun _ => o_pick_f rfl rfl) ?_
      refine wl_p (fun _ => o_pick_f rfl rfl) ?_
      refine wl_p (fun _ => o_move rfl) ?_
      refine wl_p (fun _ => o_move rfl) ?_
      refine wl_p (fun _ => o_move rfl) ?_
      refine wl_p (fun _ => o_eq rfl rfl) ?_
      refine wl_p (fun _ => o_move rfl) ?_
      refine wl_know 146 true rfl (decide_eq_true (by omega)) ?_
      refine wl_p (fun _ => o_move rfl) ?_
      refine wl_p (fun _ => o_not rfl) ?_
      refine wl_p (fun _ => o_pick_t rfl rfl) ?_
      refine wl_p (fun _ => o_pick_f rfl rfl) ?_
      refine wl_nild ?_
      rw [show (!decide (a.take 12 = b.take 12)) = false by rw [decide_eq_true htk]; rfl]
      by_cases hzt : z = b.set i (b[i]'(by omega) ^^^ by0)
      · rw [if_pos hzt] at hr2e
        subst hr2e
        refine rk_false rfl ?_
        refine rk_skip ?_
        refine rk_seq ?_
        refine rk_region ?_
        refine wl_p (fun _ => o_move rfl) ?_
        refine wl_call rfl (C_OwnP _ f45.to_Rd (by omega) (by omega)) ?_
        rintro v152 w152 ⟨A152, ⟨c152, ⟨rfl, ⟨f152, b152⟩⟩⟩⟩
        simp only [drew_size] at f152
        simp only [drew_size] at b152
        have qf152 := f152.cap
        have s152 := b152.size
        simp only [drew_size] at s152
        replace hw := hw.trans (b152.mono hw.size)
        replace f129 := f129.u b152
        replace f104 := f104.u b152
        replace f55 := f55.u b152
        replace f45 := f45.u b152
        replace f38 := f38.u b152
        replace f37 := f37.u b152
        replace f44 := f44.u b152
        replace f56 := f56.u b152
        replace f95 := f95.u b152
        replace f103 := f103.u b152
        replace f108 := f108.u b152
        replace f112 := f112.u b152
        replace f115 := f115.u b152
        refine wl_p (fun _ => o_assign rfl) ?_
        refine wl_nil ?_
        refine rk_seq ?_
        refine rk_region ?_
        refine wl_p (fun _ => o_move rfl) ?_
        refine wl_p (fun _ => o_move rfl) ?_
        refine wl_p (fun _ => o_len (t := 22) Tryd.underlying22 rfl) ?_
        refine wl_call rfl (C_PickR _ hi2 wa wbl) ?_
        rintro v156 w156 ⟨rfl, b156⟩
        have s156 := b156.size
        replace hw := hw.trans (b156.mono hw.size)
        replace f115 := f115.u b156
        replace f112 := f112.u b156
        replace f108 := f108.u b156
        replace f103 := f103.u b156
        replace f95 := f95.u b156
        replace f56 := f56.u b156
        replace f44 := f44.u b156
        replace f37 := f37.u b156
        replace f38 := f38.u b156
        replace f45 := f45.u b156
        replace f55 := f55.u b156
        replace f104 := f104.u b156
        replace f129 := f129.u b156
        replace f152 := f152.u b156
        refine wl_p (fun _ => o_assign rfl) ?_
        refine wl_nil ?_
        refine rk_seq ?_
        refine rk_region ?_
        refine wl_p (fun _ => o_move rfl) ?_
        refine wl_p (fun _ => o_move rfl) ?_
        refine wl_p (fun _ => o_move rfl) ?_
        refine wl_p (fun _ => o_move rfl) ?_
        refine wl_p (fun _ => (o_iaddrA1 (i) Tryd.underlying22 Tryd.sizeOf5 rfl rfl rfl (f152.some_ (by omega)) (by omega))) ?_
        refine wl_r (o_loadB Tryd.isAgg5 rfl f152.to_Rd (by omega)) ?_
        refine wl_p (fun _ => o_move rfl) ?_
        refine wl_p (fun _ => o_xor8 rfl rfl) ?_
        refine wl_p (fun _ => (o_iaddrA1 (i) Tryd.underlying22 Tryd.sizeOf5 rfl rfl rfl (f152.some_ (by omega)) (by omega))) ?_
        refine wl_stO Tryd.sizeOf5 rfl f152 rfl (by omega) ?_
        rintro w_1 f g b_1 e
        have qf := f.cap
        have s := g.size
        replace hw := hw.trans (b_1.mono (by omega))
        replace f104 := f104.k g.g (f.ap (by omega))
        replace f55 := f55.y g (by decide)
        replace f45 := f45.k g.g (f.ap (by omega))
        replace f38 := f38.k g.g (f.ap (by omega))
        replace f37 := f37.k g.g (f.ap (by omega))
        replace f44 := f44.k g.g (f.ap (by omega))
        replace f56 := f56.y g (by decide)
        replace f95 := f95.k g.g (f.ap (by omega))
        replace f103 := f103.k g.g (f.ap (by omega))
        replace f108 := f108.k g.g (f.ap (by omega))
        clear f152
        clear f129
        clear f112
        clear f115
        refine wl_nil ?_
        refine rk_seq ?_
        refine rk_region ?_
        refine wl_p (fun _ => o_move rfl) ?_
        refine wl_p (fun _ => o_move rfl) ?_
        refine wl_p (fun _ => o_mul rfl rfl (by omega) (by omega)) ?_
        refine wl_p (fun _ => o_move rfl) ?_
        refine wl_slBh Tryd.u8 (256) rfl rfl f.to_Rd (by omega) (by omega) (by omega) (by omega) ?_
        rintro f170
        refine wl_call rfl (C_OwnP _ f170 (by simp; omega) (by simp; omega)) ?_
        rintro v171 w171 ⟨A171, ⟨c171, ⟨rfl, ⟨f171, b171⟩⟩⟩⟩
        have qf171 := f171.cap
        have s171 := b171.size
        replace hw := hw.trans (b171.mono hw.size)
        replace f170 := f170.u b171
        replace f108 := f108.u b171
        replace f103 := f103.u b171
        replace f95 := f95.u b171
        replace f56 := f56.u b171
        replace f44 := f44.u b171
        replace f37 := f37.u b171
        replace f38 := f38.u b171
        replace f45 := f45.u b171
        replace f55 := f55.u b171
        replace f104 := f104.u b171
        replace f := f.u b171
        refine wl_call rfl (C_dWriteN _ f104 f171.to_Rd hq3 wa1 rfl (by omega)) ?_
        rintro v172 w172 ⟨rfl, ⟨f172, g172⟩⟩
        have s172 := g172.size
        replace hw := hw.trans (g172.below hw.size (by omega))
        replace f := f.c g172 (by omega)
        replace f55 := f55.c g172 (by omega)
        replace f45 := f45.c g172 (by omega)
        replace f38 := f38.c g172 (by omega)
        replace f37 := f37.c g172 (by omega)
        replace f44 := f44.c g172 (by omega)
        replace f56 := f56.c g172 (by omega)
        replace f95 := f95.c g172 (by omega)
        replace f103 := f103.c g172 (by omega)
        replace f108 := f108.c g172 (by omega)
        replace f171 := f171.c g172 (by omega)
        clear f104
        clear f170
        refine wl_nil ?_
        refine rk_seq ?_
        refine rk_region ?_
        refine wl_p (fun _ => o_move rfl) ?_
        refine wl_p (fun _ => o_move rfl) ?_
        refine wl_p (fun _ => o_mul rfl rfl (by omega) (by omega)) ?_
        refine wl_p (fun _ => o_add rfl rfl (by omega) (by omega)) ?_
        refine wl_p (fun _ => o_move rfl) ?_
        refine wl_slBl Tryd.u8 (256) rfl rfl f.to_Rd (by omega) (by omega) (by omega) (by omega) ?_
        rintro A178 c178 f178 i178 i178_1
        refine wl_call rfl (C_OwnP _ f178 (by simp) (by simp; omega)) ?_
        rintro v179 w179 ⟨A179, ⟨c179, ⟨rfl, ⟨f179, b179⟩⟩⟩⟩
        have qf179 := f179.cap
        have s179 := b179.size
        replace hw := hw.trans (b179.mono hw.size)
        replace f178 := f178.u b179
        replace f171 := f171.u b179
        replace f108 := f108.u b179
        replace f103 := f103.u b179
        replace f95 := f95.u b179
        replace f56 := f56.u b179
        replace f44 := f44.u b179
        replace f37 := f37.u b179
        replace f38 := f38.u b179
        replace f45 := f45.u b179
        replace f55 := f55.u b179
        replace f := f.u b179
        replace f172 := f172.u b179
        refine wl_call rfl (C_dWriteN _ f172 f179.to_Rd hq4 wa2 rfl (by omega)) ?_
        rintro v180 w180 ⟨rfl, ⟨f180, g180⟩⟩
        have s180 := g180.size
        replace hw := hw.trans (g180.below hw.size (by omega))
        replace f := f.c g180 (by omega)
        replace f55 := f55.c g180 (by omega)
        replace f45 := f45.c g180 (by omega)
        replace f38 := f38.c g180 (by omega)
        replace f37 := f37.c g180 (by omega)
        replace f44 := f44.c g180 (by omega)
        replace f56 := f56.c g180 (by omega)
        replace f95 := f95.c g180 (by omega)
        replace f103 := f103.c g180 (by omega)
        replace f108 := f108.c g180 (by omega)
        replace f171 := f171.c g180 (by omega)
        replace f179 := f179.c g180 (by omega)
        clear f172
        clear f178
        refine wl_nil ?_
        refine rk_seq ?_
        refine rk_region ?_
        refine wl_p (fun _ => o_move rfl) ?_
        refine wl_p (fun _ => o_move rfl) ?_
        refine wl_call rfl (C_pRead _ f56 f180 hY hr2 (by omega) wm1) ?_
        rintro v184 w184 ⟨A184, ⟨c184, ⟨rfl, ⟨f184, ⟨i184, b184⟩⟩⟩⟩⟩
        dsimp only at f184
        dsimp only at i184
        dsimp only
        have s184 := b184.size
        replace hw := hw.trans (b184.mono hw.size)
        replace f179 := f179.u b184
        replace f171 := f171.u b184
        replace f108 := f108.u b184
        replace f103 := f103.u b184
        replace f95 := f95.u b184
        replace f56 := f56.u b184
        replace f44 := f44.u b184
        replace f37 := f37.u b184
        replace f38 := f38.u b184
        replace f45 := f45.u b184
        replace f55 := f55.u b184
        replace f := f.u b184
        replace f180 := f180.u b184
        refine wl_p (fun _ => o_move rfl) ?_
        refine wl_p (fun _ => o_ext20 rfl) ?_
        refine wl_p (fun _ => o_ext21 rfl) ?_
        refine wl_p (fun _ => o_assign rfl) ?_
        refine wl_p (fun _ => o_assign rfl) ?_
        refine wl_nil ?_
        refine rk_seq ?_
        refine rk_seq ?_
        refine rk_region ?_
        refine wl_p (fun _ => o_move rfl) ?_
        refine wl_p (fun _ => o_ne rfl rfl) ?_
        refine wl_nil ?_
        refine rk_false rfl ?_
        refine rk_skip ?_
        refine rk_seq ?_
        refine rk_region ?_
        refine wl_p (fun _ => o_move rfl) ?_
        refine wl_p (fun _ => o_move rfl) ?_
        refine wl_call rfl (C_OwnP _ f184.to_Rd rfl (by omega)) ?_
        rintro v198 w198 ⟨A198, ⟨c198, ⟨rfl, ⟨f198, b198⟩⟩⟩⟩
        have qf198 := f198.cap
        have s198 := b198.size
        replace hw := hw.trans (b198.mono hw.size)
        replace f180 := f180.u b198
        replace f := f.u b198
        replace f55 := f55.u b198
        replace f45 := f45.u b198
        replace f38 := f38.u b198
        replace f37 := f37.u b198
        replace f44 := f44.u b198
        replace f56 := f56.u b198
        replace f95 := f95.u b198
        replace f103 := f103.u b198
        replace f108 := f108.u b198
        replace f171 := f171.u b198
        replace f179 := f179.u b198
        replace f184 := f184.u b198
        refine wl_call rfl (C_pBytesOk _ f198.to_Rd rfl hz (by omega) rfl (by omega)) ?_
        rintro v199 w199 ⟨A199, ⟨c199, ⟨rfl, ⟨f199, ⟨e199, ⟨i199, ⟨i199_1, b199⟩⟩⟩⟩⟩⟩⟩
        have s199 := b199.size
        replace hw := hw.trans (b199.mono hw.size)
        replace f184 := f184.u b199
        replace f179 := f179.u b199
        replace f171 := f171.u b199
        replace f108 := f108.u b199
        replace f103 := f103.u b199
        replace f95 := f95.u b199
        replace f56 := f56.u b199
        replace f44 := f44.u b199
        replace f37 := f37.u b199
        replace f38 := f38.u b199
        replace f45 := f45.u b199
        replace f55 := f55.u b199
        replace f := f.u b199
        replace f180 := f180.u b199
        replace f198 := f198.u b199
        refine wl_p (fun _ => o_move rfl) ?_
        refine wl_p (fun _ => o_ext20 rfl) ?_
        refine wl_p (fun _ => o_ext21 rfl) ?_
        refine wl_p (fun _ => o_assign rfl) ?_
        refine wl_p (fun _ => o_assign rfl) ?_
        refine wl_nil ?_
        refine rk_seq ?_
        refine rk_region ?_
        refine wl_p (fun _ => o_move rfl) ?_
        refine wl_p (fun _ => o_eq rfl rfl) ?_
        refine wl_p (fun _ => o_move rfl) ?_
        refine wl_p (fun _ => o_move rfl) ?_
        refine wl_r (o_strU Tryd.underlying22 Tryd.underlying5 Tryd.underlying9 rfl f199.to_Rd (Below.refl _ _) (by omega)) ?_
        refine wl_p (fun _ => o_move rfl) ?_
        refine wl_r (o_strU Tryd.underlying22 Tryd.underlying5 Tryd.underlying9 rfl f.to_Rd (Below.refl _ _) (by omega)) ?_
        refine wl_p (fun _ => o_seq rfl rfl) ?_
        refine wl_p (fun _ => o_pick_t rfl rfl) ?_
        refine wl_p (fun _ => o_assign rfl) ?_
        refine wl_nil ?_
        refine ret1 rfl rfl ?_
        exact ⟨congrArg Value.bool (decide_eq_true hzt), hw⟩
      · rw [if_neg hzt] at hr2e
        have hbz := hby hzt
        have hbz2 : ¬ (by0.toNat : Int) = 0 := fun h => hbz (UInt8.toNat_inj.1 (by show by0.toNat = 0; omega))
        subst hr2e
        refine rk_false rfl ?_
        refine rk_skip ?_
        refine rk_seq ?_
        refine rk_region ?_
        refine wl_p (fun _ => o_move rfl) ?_
        refine wl_call rfl (C_OwnP _ f45.to_Rd (by omega) (by omega)) ?_
        rintro v152 w152 ⟨A152, ⟨c152, ⟨rfl, ⟨f152, b152⟩⟩⟩⟩
        simp only [drew_size] at f152
        simp only [drew_size] at b152
        have qf152 := f152.cap
        have s152 := b152.size
        simp only [drew_size] at s152
        replace hw := hw.trans (b152.mono hw.size)
        replace f129 := f129.u b152
        replace f104 := f104.u b152
        replace f55 := f55.u b152
        replace f45 := f45.u b152
        replace f38 := f38.u b152
        replace f37 := f37.u b152
        replace f44 := f44.u b152
        replace f56 := f56.u b152
        replace f95 := f95.u b152
        replace f103 := f103.u b152
        replace f108 := f108.u b152
        replace f112 := f112.u b152
        replace f115 := f115.u b152
        refine wl_p (fun _ => o_assign rfl) ?_
        refine wl_nil ?_
        refine rk_seq ?_
        refine rk_region ?_
        refine wl_p (fun _ => o_move rfl) ?_
        refine wl_p (fun _ => o_move rfl) ?_
        refine wl_p (fun _ => o_len (t := 22) Tryd.underlying22 rfl) ?_
        refine wl_call rfl (C_PickR _ hi2 wa wbl) ?_
        rintro v156 w156 ⟨rfl, b156⟩
        have s156 := b156.size
        replace hw := hw.trans (b156.mono hw.size)
        replace f115 := f115.u b156
        replace f112 := f112.u b156
        replace f108 := f108.u b156
        replace f103 := f103.u b156
        replace f95 := f95.u b156
        replace f56 := f56.u b156
        replace f44 := f44.u b156
        replace f37 := f37.u b156
        replace f38 := f38.u b156
        replace f45 := f45.u b156
        replace f55 := f55.u b156
        replace f104 := f104.u b156
        replace f129 := f129.u b156
        replace f152 := f152.u b156
        refine wl_p (fun _ => o_assign rfl) ?_
        refine wl_nil ?_
        refine rk_seq ?_
        refine rk_region ?_
        refine wl_p (fun _ => o_move rfl) ?_
        refine wl_p (fun _ => o_move rfl) ?_
        refine wl_p (fun _ => o_move rfl) ?_
        refine wl_p (fun _ => o_move rfl) ?_
        refine wl_p (fun _ => (o_iaddrA1 (i) Tryd.underlying22 Tryd.sizeOf5 rfl rfl rfl (f152.some_ (by omega)) (by omega))) ?_
        refine wl_r (o_loadB Tryd.isAgg5 rfl f152.to_Rd (by omega)) ?_
        refine wl_p (fun _ => o_move rfl) ?_
        refine wl_p (fun _ => o_xor8 rfl rfl) ?_
        refine wl_p (fun _ => (o_iaddrA1 (i) Tryd.underlying22 Tryd.sizeOf5 rfl rfl rfl (f152.some_ (by omega)) (by omega))) ?_
        refine wl_stO Tryd.sizeOf5 rfl f152 rfl (by omega) ?_
        rintro w_1 f g b_1 e
        have qf := f.cap
        have s := g.size
        replace hw := hw.trans (b_1.mono (by omega))
        replace f104 := f104.k g.g (f.ap (by omega))
        replace f55 := f55.y g (by decide)
        replace f45 := f45.k g.g (f.ap (by omega))
        replace f38 := f38.k g.g (f.ap (by omega))
        replace f37 := f37.k g.g (f.ap (by omega))
        replace f44 := f44.k g.g (f.ap (by omega))
        replace f56 := f56.y g (by decide)
        replace f95 := f95.k g.g (f.ap (by omega))
        replace f103 := f103.k g.g (f.ap (by omega))
        replace f108 := f108.k g.g (f.ap (by omega))
        clear f152
        clear f129
        clear f112
        clear f115
        refine wl_nil ?_
        refine rk_seq ?_
        refine rk_region ?_
        refine wl_p (fun _ => o_move rfl) ?_
        refine wl_p (fun _ => o_move rfl) ?_
        refine wl_p (fun _ => o_mul rfl rfl (by omega) (by omega)) ?_
        refine wl_p (fun _ => o_move rfl) ?_
        refine wl_slBh Tryd.u8 (256) rfl rfl f.to_Rd (by omega) (by omega) (by omega) (by omega) ?_
        rintro f170
        refine wl_call rfl (C_OwnP _ f170 (by simp; omega) (by simp; omega)) ?_
        rintro v171 w171 ⟨A171, ⟨c171, ⟨rfl, ⟨f171, b171⟩⟩⟩⟩
        have qf171 := f171.cap
        have s171 := b171.size
        replace hw := hw.trans (b171.mono hw.size)
        replace f170 := f170.u b171
        replace f108 := f108.u b171
        replace f103 := f103.u b171
        replace f95 := f95.u b171
        replace f56 := f56.u b171
        replace f44 := f44.u b171
        replace f37 := f37.u b171
        replace f38 := f38.u b171
        replace f45 := f45.u b171
        replace f55 := f55.u b171
        replace f104 := f104.u b171
        replace f := f.u b171
        refine wl_call rfl (C_dWriteN _ f104 f171.to_Rd hq3 wa1 rfl (by omega)) ?_
        rintro v172 w172 ⟨rfl, ⟨f172, g172⟩⟩
        have s172 := g172.size
        replace hw := hw.trans (g172.below hw.size (by omega))
        replace f := f.c g172 (by omega)
        replace f55 := f55.c g172 (by omega)
        replace f45 := f45.c g172 (by omega)
        replace f38 := f38.c g172 (by omega)
        replace f37 := f37.c g172 (by omega)
        replace f44 := f44.c g172 (by omega)
        replace f56 := f56.c g172 (by omega)
        replace f95 := f95.c g172 (by omega)
        replace f103 := f103.c g172 (by omega)
        replace f108 := f108.c g172 (by omega)
        replace f171 := f171.c g172 (by omega)
        clear f104
        clear f170
        refine wl_nil ?_
        refine rk_seq ?_
        refine rk_region ?_
        refine wl_p (fun _ => o_move rfl) ?_
        refine wl_p (fun _ => o_move rfl) ?_
        refine wl_p (fun _ => o_mul rfl rfl (by omega) (by omega)) ?_
        refine wl_p (fun _ => o_add rfl rfl (by omega) (by omega)) ?_
        refine wl_p (fun _ => o_move rfl) ?_
        refine wl_slBl Tryd.u8 (256) rfl rfl f.to_Rd (by omega) (by omega) (by omega) (by omega) ?_
        rintro A178 c178 f178 i178 i178_1
        refine wl_call rfl (C_OwnP _ f178 (by simp) (by simp; omega)) ?_
        rintro v179 w179 ⟨A179, ⟨c179, ⟨rfl, ⟨f179, b179⟩⟩⟩⟩
        have qf179 := f179.cap
        have s179 := b179.size
        replace hw := hw.trans (b179.mono hw.size)
        replace f178 := f178.u b179
        replace f171 := f171.u b179
        replace f108 := f108.u b179
        replace f103 := f103.u b179
        replace f95 := f95.u b179
        replace f56 := f56.u b179
        replace f44 := f44.u b179
        replace f37 := f37.u b179
        replace f38 := f38.u b179
        replace f45 := f45.u b179
        replace f55 := f55.u b179
        replace f := f.u b179
        replace f172 := f172.u b179
        refine wl_call rfl (C_dWriteN _ f172 f179.to_Rd hq4 wa2 rfl (by omega)) ?_
        rintro v180 w180 ⟨rfl, ⟨f180, g180⟩⟩
        have s180 := g180.size
        replace hw := hw.trans (g180.below hw.size (by omega))
        replace f := f.c g180 (by omega)
        replace f55 := f55.c g180 (by omega)
        replace f45 := f45.c g180 (by omega)
        replace f38 := f38.c g180 (by omega)
        replace f37 := f37.c g180 (by omega)
        replace f44 := f44.c g180 (by omega)
        replace f56 := f56.c g180 (by omega)
        replace f95 := f95.c g180 (by omega)
        replace f103 := f103.c g180 (by omega)
        replace f108 := f108.c g180 (by omega)
        replace f171 := f171.c g180 (by omega)
        replace f179 := f179.c g180 (by omega)
        clear f172
        clear f178
        refine wl_nil ?_
        refine rk_seq ?_
        refine rk_region ?_
        refine wl_p (fun _ => o_move rfl) ?_
        refine wl_p (fun _ => o_move rfl) ?_
        refine wl_call rfl (C_pRead _ f56 f180 hY hr2 (by omega) wm1) ?_
        rintro v184 w184 ⟨A184, ⟨c184, ⟨rfl, ⟨f184, ⟨i184, b184⟩⟩⟩⟩⟩
        dsimp only at f184
        dsimp only at i184
        dsimp only
        have s184 := b184.size
        replace hw := hw.trans (b184.mono hw.size)
        replace f179 := f179.u b184
        replace f171 := f171.u b184
        replace f108 := f108.u b184
        replace f103 := f103.u b184
        replace f95 := f95.u b184
        replace f56 := f56.u b184
        replace f44 := f44.u b184
        replace f37 := f37.u b184
        replace f38 := f38.u b184
        replace f45 := f45.u b184
        replace f55 := f55.u b184
        replace f := f.u b184
        replace f180 := f180.u b184
        refine wl_p (fun _ => o_move rfl) ?_
        refine wl_p (fun _ => o_ext20 rfl) ?_
        refine wl_p (fun _ => o_ext21 rfl) ?_
        refine wl_p (fun _ => o_assign rfl) ?_
        refine wl_p (fun _ => o_assign rfl) ?_
        refine wl_nil ?_
        refine rk_seq ?_
        refine rk_seq ?_
        refine rk_region ?_
        refine wl_p (fun _ => o_move rfl) ?_
        refine wl_p (fun _ => o_ne rfl rfl) ?_
        refine wl_nil ?_
        refine rk_true rfl ?_
        refine rk_seq ?_
        refine rk_region ?_
        refine wl_p (fun _ => o_move rfl) ?_
        refine wl_p (fun _ => o_eq rfl rfl) ?_
        refine wl_p (fun _ => o_move rfl) ?_
        refine wl_p (fun _ => o_move rfl) ?_
        refine wl_p (fun _ => o_ne rfl rfl) ?_
        refine wl_p (fun _ => o_pick_t rfl rfl) ?_
        refine wl_p (fun _ => o_assign rfl) ?_
        refine wl_nil ?_
        refine ret1 rfl rfl ?_
        exact ⟨congrArg Value.bool (decide_eq_true hbz2), hw⟩
    · by_cases hzt : z = b.set i (b[i]'(by omega) ^^^ by0)
      · rw [if_pos hzt] at hr2e
        subst hr2e
        refine wl_p (fun _ => o_move rfl) ?_
        refine wl_p (fun _ => o_ne rfl rfl) ?_
        refine wl_p (fun _ => o_move rfl) ?_
        refine wl_off ?_
        refine wl_off ?_
        refine wl_p (fun _ => o_pick_f rfl rfl) ?_
        refine wl_p (fun _ => o_pick_f rfl rfl) ?_
        refine wl_p (fun _ => o_move rfl) ?_
        refine wl_p (fun _ => o_move rfl) ?_
        refine wl_p (fun _ => o_move rfl) ?_
        refine wl_p (fun _ => o_eq rfl rfl) ?_
        refine wl_p (fun _ => o_move rfl) ?_
        refine wl_know 146 false rfl (decide_eq_false (by omega)) ?_
        refine wl_off ?_
        refine wl_off ?_
        refine wl_p (fun _ => o_pick_f rfl rfl) ?_
        refine wl_p (fun _ => o_pick_f rfl rfl) ?_
        refine wl_nild ?_
        refine rk_false rfl ?_
        refine rk_skip ?_
        refine rk_seq ?_
        refine rk_region ?_
        refine wl_p (fun _ => o_move rfl) ?_
        refine wl_call rfl (C_OwnP _ f45.to_Rd (by omega) (by omega)) ?_
        rintro v152 w152 ⟨A152, ⟨c152, ⟨rfl, ⟨f152, b152⟩⟩⟩⟩
        simp only [drew_size] at f152
        simp only [drew_size] at b152
        have qf152 := f152.cap
        have s152 := b152.size
        simp only [drew_size] at s152
        replace hw := hw.trans (b152.mono hw.size)
        replace f129 := f129.u b152
        replace f104 := f104.u b152
        replace f55 := f55.u b152
        replace f45 := f45.u b152
        replace f38 := f38.u b152
        replace f37 := f37.u b152
        replace f44 := f44.u b152
        replace f56 := f56.u b152
        replace f95 := f95.u b152
        replace f103 := f103.u b152
        replace f108 := f108.u b152
        replace f112 := f112.u b152
        replace f115 := f115.u b152
        refine wl_p (fun _ => o_assign rfl) ?_
        refine wl_nil ?_
        refine rk_seq ?_
        refine rk_region ?_
        refine wl_p (fun _ => o_move rfl) ?_
        refine wl_p (fun _ => o_move rfl) ?_
        refine wl_p (fun _ => o_len (t := 22) Tryd.underlying22 rfl) ?_
        refine wl_call rfl (C_PickR _ hi2 wa wbl) ?_
        rintro v156 w156 ⟨rfl, b156⟩
        have s156 := b156.size
        replace hw := hw.trans (b156.mono hw.size)
        replace f115 := f115.u b156
        replace f112 := f112.u b156
        replace f108 := f108.u b156
        replace f103 := f103.u b156
        replace f95 := f95.u b156
        replace f56 := f56.u b156
        replace f44 := f44.u b156
        replace f37 := f37.u b156
        replace f38 := f38.u b156
        replace f45 := f45.u b156
        replace f55 := f55.u b156
        replace f104 := f104.u b156
        replace f129 := f129.u b156
        replace f152 := f152.u b156
        refine wl_p (fun _ => o_assign rfl) ?_
        refine wl_nil ?_
        refine rk_seq ?_
        refine rk_region ?_
        refine wl_p (fun _ => o_move rfl) ?_
        refine wl_p (fun _ => o_move rfl) ?_
        refine wl_p (fun _ => o_move rfl) ?_
        refine wl_p (fun _ => o_move rfl) ?_
        refine wl_p (fun _ => (o_iaddrA1 (i) Tryd.underlying22 Tryd.sizeOf5 rfl rfl rfl (f152.some_ (by omega)) (by omega))) ?_
        refine wl_r (o_loadB Tryd.isAgg5 rfl f152.to_Rd (by omega)) ?_
        refine wl_p (fun _ => o_move rfl) ?_
        refine wl_p (fun _ => o_xor8 rfl rfl) ?_
        refine wl_p (fun _ => (o_iaddrA1 (i) Tryd.underlying22 Tryd.sizeOf5 rfl rfl rfl (f152.some_ (by omega)) (by omega))) ?_
        refine wl_stO Tryd.sizeOf5 rfl f152 rfl (by omega) ?_
        rintro w_1 f g b_1 e
        have qf := f.cap
        have s := g.size
        replace hw := hw.trans (b_1.mono (by omega))
        replace f104 := f104.k g.g (f.ap (by omega))
        replace f55 := f55.y g (by decide)
        replace f45 := f45.k g.g (f.ap (by omega))
        replace f38 := f38.k g.g (f.ap (by omega))
        replace f37 := f37.k g.g (f.ap (by omega))
        replace f44 := f44.k g.g (f.ap (by omega))
        replace f56 := f56.y g (by decide)
        replace f95 := f95.k g.g (f.ap (by omega))
        replace f103 := f103.k g.g (f.ap (by omega))
        replace f108 := f108.k g.g (f.ap (by omega))
        clear f152
        clear f129
        clear f112
        clear f115
        refine wl_nil ?_
        refine rk_seq ?_
        refine rk_region ?_
        refine wl_p (fun _ => o_move rfl) ?_
        refine wl_p (fun _ => o_move rfl) ?_
        refine wl_p (fun _ => o_mul rfl rfl (by omega) (by omega)) ?_
        refine wl_p (fun _ => o_move rfl) ?_
        refine wl_slBh Tryd.u8 (256) rfl rfl f.to_Rd (by omega) (by omega) (by omega) (by omega) ?_
        rintro f170
        refine wl_call rfl (C_OwnP _ f170 (by simp; omega) (by simp; omega)) ?_
        rintro v171 w171 ⟨A171, ⟨c171, ⟨rfl, ⟨f171, b171⟩⟩⟩⟩
        have qf171 := f171.cap
        have s171 := b171.size
        replace hw := hw.trans (b171.mono hw.size)
        replace f170 := f170.u b171
        replace f108 := f108.u b171
        replace f103 := f103.u b171
        replace f95 := f95.u b171
        replace f56 := f56.u b171
        replace f44 := f44.u b171
        replace f37 := f37.u b171
        replace f38 := f38.u b171
        replace f45 := f45.u b171
        replace f55 := f55.u b171
        replace f104 := f104.u b171
        replace f := f.u b171
        refine wl_call rfl (C_dWriteN _ f104 f171.to_Rd hq3 wa1 rfl (by omega)) ?_
        rintro v172 w172 ⟨rfl, ⟨f172, g172⟩⟩
        have s172 := g172.size
        replace hw := hw.trans (g172.below hw.size (by omega))
        replace f := f.c g172 (by omega)
        replace f55 := f55.c g172 (by omega)
        replace f45 := f45.c g172 (by omega)
        replace f38 := f38.c g172 (by omega)
        replace f37 := f37.c g172 (by omega)
        replace f44 := f44.c g172 (by omega)
        replace f56 := f56.c g172 (by omega)
        replace f95 := f95.c g172 (by omega)
        replace f103 := f103.c g172 (by omega)
        replace f108 := f108.c g172 (by omega)
        replace f171 := f171.c g172 (by omega)
        clear f104
        clear f170
        refine wl_nil ?_
        refine rk_seq ?_
        refine rk_region ?_
        refine wl_p (fun _ => o_move rfl) ?_
        refine wl_p (fun _ => o_move rfl) ?_
        refine wl_p (fun _ => o_mul rfl rfl (by omega) (by omega)) ?_
        refine wl_p (fun _ => o_add rfl rfl (by omega) (by omega)) ?_
        refine wl_p (fun _ => o_move rfl) ?_
        refine wl_slBl Tryd.u8 (256) rfl rfl f.to_Rd (by omega) (by omega) (by omega) (by omega) ?_
        rintro A178 c178 f178 i178 i178_1
        refine wl_call rfl (C_OwnP _ f178 (by simp) (by simp; omega)) ?_
        rintro v179 w179 ⟨A179, ⟨c179, ⟨rfl, ⟨f179, b179⟩⟩⟩⟩
        have qf179 := f179.cap
        have s179 := b179.size
        replace hw := hw.trans (b179.mono hw.size)
        replace f178 := f178.u b179
        replace f171 := f171.u b179
        replace f108 := f108.u b179
        replace f103 := f103.u b179
        replace f95 := f95.u b179
        replace f56 := f56.u b179
        replace f44 := f44.u b179
        replace f37 := f37.u b179
        replace f38 := f38.u b179
        replace f45 := f45.u b179
        replace f55 := f55.u b179
        replace f := f.u b179
        replace f172 := f172.u b179
        refine wl_call rfl (C_dWriteN _ f172 f179.to_Rd hq4 wa2 rfl (by omega)) ?_
        rintro v180 w180 ⟨rfl, ⟨f180, g180⟩⟩
        have s180 := g180.size
        replace hw := hw.trans (g180.below hw.size (by omega))
        replace f := f.c g180 (by omega)
        replace f55 := f55.c g180 (by omega)
        replace f45 := f45.c g180 (by omega)
        replace f38 := f38.c g180 (by omega)
        replace f37 := f37.c g180 (by omega)
        replace f44 := f44.c g180 (by omega)
        replace f56 := f56.c g180 (by omega)
        replace f95 := f95.c g180 (by omega)
        replace f103 := f103.c g180 (by omega)
        replace f108 := f108.c g180 (by omega)
        replace f171 := f171.c g180 (by omega)
        replace f179 := f179.c g180 (by omega)
        clear f172
        clear f178
        refine wl_nil ?_
        refine rk_seq ?_
        refine rk_region ?_
        refine wl_p (fun _ => o_move rfl) ?_
        refine wl_p (fun _ => o_move rfl) ?_
        refine wl_call rfl (C_pRead _ f56 f180 hY hr2 (by omega) wm1) ?_
        rintro v184 w184 ⟨A184, ⟨c184, ⟨rfl, ⟨f184, ⟨i184, b184⟩⟩⟩⟩⟩
        dsimp only at f184
        dsimp only at i184
        dsimp only
        have s184 := b184.size
        replace hw := hw.trans (b184.mono hw.size)
        replace f179 := f179.u b184
        replace f171 := f171.u b184
        replace f108 := f108.u b184
        replace f103 := f103.u b184
        replace f95 := f95.u b184
        replace f56 := f56.u b184
        replace f44 := f44.u b184
        replace f37 := f37.u b184
        replace f38 := f38.u b184
        replace f45 := f45.u b184
        replace f55 := f55.u b184
        replace f := f.u b184
        replace f180 := f180.u b184
        refine wl_p (fun _ => o_move rfl) ?_
        refine wl_p (fun _ => o_ext20 rfl) ?_
        refine wl_p (fun _ => o_ext21 rfl) ?_
        refine wl_p (fun _ => o_assign rfl) ?_
        refine wl_p (fun _ => o_assign rfl) ?_
        refine wl_nil ?_
        refine rk_seq ?_
        refine rk_seq ?_
        refine rk_region ?_
        refine wl_p (fun _ => o_move rfl) ?_
        refine wl_p (fun _ => o_ne rfl rfl) ?_
        refine wl_nil ?_
        refine rk_false rfl ?_
        refine rk_skip ?_
        refine rk_seq ?_
        refine rk_region ?_
        refine wl_p (fun _ => o_move rfl) ?_
        refine wl_p (fun _ => o_move rfl) ?_
        refine wl_call rfl (C_OwnP _ f184.to_Rd rfl (by omega)) ?_
        rintro v198 w198 ⟨A198, ⟨c198, ⟨rfl, ⟨f198, b198⟩⟩⟩⟩
        have qf198 := f198.cap
        have s198 := b198.size
        replace hw := hw.trans (b198.mono hw.size)
        replace f180 := f180.u b198
        replace f := f.u b198
        replace f55 := f55.u b198
        replace f45 := f45.u b198
        replace f38 := f38.u b198
        replace f37 := f37.u b198
        replace f44 := f44.u b198
        replace f56 := f56.u b198
        replace f95 := f95.u b198
        replace f103 := f103.u b198
        replace f108 := f108.u b198
        replace f171 := f171.u b198
        replace f179 := f179.u b198
        replace f184 := f184.u b198
        refine wl_call rfl (C_pBytesOk _ f198.to_Rd rfl hz (by omega) rfl (by omega)) ?_
        rintro v199 w199 ⟨A199, ⟨c199, ⟨rfl, ⟨f199, ⟨e199, ⟨i199, ⟨i199_1, b199⟩⟩⟩⟩⟩⟩⟩
        have s199 := b199.size
        replace hw := hw.trans (b199.mono hw.size)
        replace f184 := f184.u b199
        replace f179 := f179.u b199
        replace f171 := f171.u b199
        replace f108 := f108.u b199
        replace f103 := f103.u b199
        replace f95 := f95.u b199
        replace f56 := f56.u b199
        replace f44 := f44.u b199
        replace f37 := f37.u b199
        replace f38 := f38.u b199
        replace f45 := f45.u b199
        replace f55 := f55.u b199
        replace f := f.u b199
        replace f180 := f180.u b199
        replace f198 := f198.u b199
        refine wl_p (fun _ => o_move rfl) ?_
        refine wl_p (fun _ => o_ext20 rfl) ?_
        refine wl_p (fun _ => o_ext21 rfl) ?_
        refine wl_p (fun _ => o_assign rfl) ?_
        refine wl_p (fun _ => o_assign rfl) ?_
        refine wl_nil ?_
        refine rk_seq ?_
        refine rk_region ?_
        refine wl_p (fun _ => o_move rfl) ?_
        refine wl_p (fun _ => o_eq rfl rfl) ?_
        refine wl_p (fun _ => o_move rfl) ?_
        refine wl_p (fun _ => o_move rfl) ?_
        refine wl_r (o_strU Tryd.underlying22 Tryd.underlying5 Tryd.underlying9 rfl f199.to_Rd (Below.refl _ _) (by omega)) ?_
        refine wl_p (fun _ => o_move rfl) ?_
        refine wl_r (o_strU Tryd.underlying22 Tryd.underlying5 Tryd.underlying9 rfl f.to_Rd (Below.refl _ _) (by omega)) ?_
        refine wl_p (fun _ => o_seq rfl rfl) ?_
        refine wl_p (fun _ => o_pick_t rfl rfl) ?_
        refine wl_p (fun _ => o_assign rfl) ?_
        refine wl_nil ?_
        refine ret1 rfl rfl ?_
        exact ⟨congrArg Value.bool (decide_eq_true hzt), hw⟩
      · rw [if_neg hzt] at hr2e
        have hbz := hby hzt
        have hbz2 : ¬ (by0.toNat : Int) = 0 := fun h => hbz (UInt8.toNat_inj.1 (by show by0.toNat = 0; omega))
        subst hr2e
        refine wl_p (fun _ => o_move rfl) ?_
        refine wl_p (fun _ => o_ne rfl rfl) ?_
        refine wl_p (fun _ => o_move rfl) ?_
        refine wl_off ?_
        refine wl_off ?_
        refine wl_p (fun _ => o_pick_f rfl rfl) ?_
        refine wl_p (fun _ => o_pick_f rfl rfl) ?_
        refine wl_p (fun _ => o_move rfl) ?_
        refine wl_p (fun _ => o_move rfl) ?_
        refine wl_p (fun _ => o_move rfl) ?_
        refine wl_p (fun _ => o_eq rfl rfl) ?_
        refine wl_p (fun _ => o_move rfl) ?_
        refine wl_know 146 false rfl (decide_eq_false (by omega)) ?_
        refine wl_off ?_
        refine wl_off ?_
        refine wl_p (fun _ => o_pick_f rfl rfl) ?_
        refine wl_p (fun _ => o_pick_f rfl rfl) ?_
        refine wl_nild ?_
        refine rk_false rfl ?_
        refine rk_skip ?_
        refine rk_seq ?_
        refine rk_region ?_
        refine wl_p (fun _ => o_move rfl) ?_
        refine wl_call rfl (C_OwnP _ f45.to_Rd (by omega) (by omega)) ?_
        rintro v152 w152 ⟨A152, ⟨c152, ⟨rfl, ⟨f152, b152⟩⟩⟩⟩
        simp only [drew_size] at f152
        simp only [drew_size] at b152
        have qf152 := f152.cap
        have s152 := b152.size
        simp only [drew_size] at s152
        replace hw := hw.trans (b152.mono hw.size)
        replace f129 := f129.u b152
        replace f104 := f104.u b152
        replace f55 := f55.u b152
        replace f45 := f45.u b152
        replace f38 := f38.u b152
        replace f37 := f37.u b152
        replace f44 := f44.u b152
        replace f56 := f56.u b152
        replace f95 := f95.u b152
        replace f103 := f103.u b152
        replace f108 := f108.u b152
        replace f112 := f112.u b152
        replace f115 := f115.u b152
        refine wl_p (fun _ => o_assign rfl) ?_
        refine wl_nil ?_
        refine rk_seq ?_
        refine rk_region ?_
        refine wl_p (fun _ => o_move rfl) ?_
        refine wl_p (fun _ => o_move rfl) ?_
        refine wl_p (fun _ => o_len (t := 22) Tryd.underlying22 rfl) ?_
        refine wl_call rfl (C_PickR _ hi2 wa wbl) ?_
        rintro v156 w156 ⟨rfl, b156⟩
        have s156 := b156.size
        replace hw := hw.trans (b156.mono hw.size)
        replace f115 := f115.u b156
        replace f112 := f112.u b156
        replace f108 := f108.u b156
        replace f103 := f103.u b156
        replace f95 := f95.u b156
        replace f56 := f56.u b156
        replace f44 := f44.u b156
        replace f37 := f37.u b156
        replace f38 := f38.u b156
        replace f45 := f45.u b156
        replace f55 := f55.u b156
        replace f104 := f104.u b156
        replace f129 := f129.u b156
        replace f152 := f152.u b156
        refine wl_p (fun _ => o_assign rfl) ?_
        refine wl_nil ?_
        refine rk_seq ?_
        refine rk_region ?_
        refine wl_p (fun _ => o_move rfl) ?_
        refine wl_p (fun _ => o_move rfl) ?_
        refine wl_p (fun _ => o_move rfl) ?_
        refine wl_p (fun _ => o_move rfl) ?_
        refine wl_p (fun _ => (o_iaddrA1 (i) Tryd.underlying22 Tryd.sizeOf5 rfl rfl rfl (f152.some_ (by omega)) (by omega))) ?_
        refine wl_r (o_loadB Tryd.isAgg5 rfl f152.to_Rd (by omega)) ?_
        refine wl_p (fun _ => o_move rfl) ?_
        refine wl_p (fun _ => o_xor8 rfl rfl) ?_
        refine wl_p (fun _ => (o_iaddrA1 (i) Tryd.underlying22 Tryd.sizeOf5 rfl rfl rfl (f152.some_ (by omega)) (by omega))) ?_
        refine wl_stO Tryd.sizeOf5 rfl f152 rfl (by omega) ?_
        rintro w_1 f g b_1 e
        have qf := f.cap
        have s := g.size
        replace hw := hw.trans (b_1.mono (by omega))
        replace f104 := f104.k g.g (f.ap (by omega))
        replace f55 := f55.y g (by decide)
        replace f45 := f45.k g.g (f.ap (by omega))
        replace f38 := f38.k g.g (f.ap (by omega))
        replace f37 := f37.k g.g (f.ap (by omega))
        replace f44 := f44.k g.g (f.ap (by omega))
        replace f56 := f56.y g (by decide)
        replace f95 := f95.k g.g (f.ap (by omega))
        replace f103 := f103.k g.g (f.ap (by omega))
        replace f108 := f108.k g.g (f.ap (by omega))
        clear f152
        clear f129
        clear f112
        clear f115
        refine wl_nil ?_
        refine rk_seq ?_
        refine rk_region ?_
        refine wl_p (fun _ => o_move rfl) ?_
        refine wl_p (fun _ => o_move rfl) ?_
        refine wl_p (fun _ => o_mul rfl rfl (by omega) (by omega)) ?_
        refine wl_p (fun _ => o_move rfl) ?_
        refine wl_slBh Tryd.u8 (256) rfl rfl f.to_Rd (by omega) (by omega) (by omega) (by omega) ?_
        rintro f170
        refine wl_call rfl (C_OwnP _ f170 (by simp; omega) (by simp; omega)) ?_
        rintro v171 w171 ⟨A171, ⟨c171, ⟨rfl, ⟨f171, b171⟩⟩⟩⟩
        have qf171 := f171.cap
        have s171 := b171.size
        replace hw := hw.trans (b171.mono hw.size)
        replace f170 := f170.u b171
        replace f108 := f108.u b171
        replace f103 := f103.u b171
        replace f95 := f95.u b171
        replace f56 := f56.u b171
        replace f44 := f44.u b171
        replace f37 := f37.u b171
        replace f38 := f38.u b171
        replace f45 := f45.u b171
        replace f55 := f55.u b171
        replace f104 := f104.u b171
        replace f := f.u b171
        refine wl_call rfl (C_dWriteN _ f104 f171.to_Rd hq3 wa1 rfl (by omega)) ?_
        rintro v172 w172 ⟨rfl, ⟨f172, g172⟩⟩
        have s172 := g172.size
        replace hw := hw.trans (g172.below hw.size (by omega))
        replace f := f.c g172 (by omega)
        replace f55 := f55.c g172 (by omega)
        replace f45 := f45.c g172 (by omega)
        replace f38 := f38.c g172 (by omega)
        replace f37 := f37.c g172 (by omega)
        replace f44 := f44.c g172 (by omega)
        replace f56 := f56.c g172 (by omega)
        replace f95 := f95.c g172 (by omega)
        replace f103 := f103.c g172 (by omega)
        replace f108 := f108.c g172 (by omega)
        replace f171 := f171.c g172 (by omega)
        clear f104
        clear f170
        refine wl_nil ?_
        refine rk_seq ?_
        refine rk_region ?_
        refine wl_p (fun _ => o_move rfl) ?_
        refine wl_p (fun _ => o_move rfl) ?_
        refine wl_p (fun _ => o_mul rfl rfl (by omega) (by omega)) ?_
        refine wl_p (fun _ => o_add rfl rfl (by omega) (by omega)) ?_
        refine wl_p (fun _ => o_move rfl) ?_
        refine wl_slBl Tryd.u8 (256) rfl rfl f.to_Rd (by omega) (by omega) (by omega) (by omega) ?_
        rintro A178 c178 f178 i178 i178_1
        refine wl_call rfl (C_OwnP _ f178 (by simp) (by simp; omega)) ?_
        rintro v179 w179 ⟨A179, ⟨c179, ⟨rfl, ⟨f179, b179⟩⟩⟩⟩
        have qf179 := f179.cap
        have s179 := b179.size
        replace hw := hw.trans (b179.mono hw.size)
        replace f178 := f178.u b179
        replace f171 := f171.u b179
        replace f108 := f108.u b179
        replace f103 := f103.u b179
        replace f95 := f95.u b179
        replace f56 := f56.u b179
        replace f44 := f44.u b179
        replace f37 := f37.u b179
        replace f38 := f38.u b179
        replace f45 := f45.u b179
        replace f55 := f55.u b179
        replace f := f.u b179
        replace f172 := f172.u b179
        refine wl_call rfl (C_dWriteN _ f172 f179.to_Rd hq4 wa2 rfl (by omega)) ?_
        rintro v180 w180 ⟨rfl, ⟨f180, g180⟩⟩
        have s180 := g180.size
        replace hw := hw.trans (g180.below hw.size (by omega))
        replace f := f.c g180 (by omega)
        replace f55 := f55.c g180 (by omega)
        replace f45 := f45.c g180 (by omega)
        replace f38 := f38.c g180 (by omega)
        replace f37 := f37.c g180 (by omega)
        replace f44 := f44.c g180 (by omega)
        replace f56 := f56.c g180 (by omega)
        replace f95 := f95.c g180 (by omega)
        replace f103 := f103.c g180 (by omega)
        replace f108 := f108.c g180 (by omega)
        replace f171 := f171.c g180 (by omega)
        replace f179 := f179.c g180 (by omega)
        clear f172
        clear f178
        refine wl_nil ?_
        refine rk_seq ?_
        refine rk_region ?_
        refine wl_p (fun _ => o_move rfl) ?_
        refine wl_p (fun _ => o_move rfl) ?_
        refine wl_call rfl (C_pRead _ f56 f180 hY hr2 (by omega) wm1) ?_
        rintro v184 w184 ⟨A184, ⟨c184, ⟨rfl, ⟨f184, ⟨i184, b184⟩⟩⟩⟩⟩
        dsimp only at f184
        dsimp only at i184
        dsimp only
        have s184 := b184.size
        replace hw := hw.trans (b184.mono hw.size)
        replace f179 := f179.u b184
        replace f171 := f171.u b184
        replace f108 := f108.u b184
        replace f103 := f103.u b184
        replace f95 := f95.u b184
        replace f56 := f56.u b184
        replace f44 := f44.u b184
        replace f37 := f37.u b184
        replace f38 := f38.u b184
        replace f45 := f45.u b184
        replace f55 := f55.u b184
        replace f := f.u b184
        replace f180 := f180.u b184
        refine wl_p (fun _ => o_move rfl) ?_
        refine wl_p (fun _ => o_ext20 rfl) ?_
        refine wl_p (fun _ => o_ext21 rfl) ?_
        refine wl_p (fun _ => o_assign rfl) ?_
        refine wl_p (fun _ => o_assign rfl) ?_
        refine wl_nil ?_
        refine rk_seq ?_
        refine rk_seq ?_
        refine rk_region ?_
        refine wl_p (fun _ => o_move rfl) ?_
        refine wl_p (fun _ => o_ne rfl rfl) ?_
        refine wl_nil ?_
        refine rk_true rfl ?_
        refine rk_seq ?_
        refine rk_region ?_
        refine wl_p (fun _ => o_move rfl) ?_
        refine wl_p (fun _ => o_eq rfl rfl) ?_
        refine wl_p (fun _ => o_move rfl) ?_
        refine wl_p (fun _ => o_move rfl) ?_
        refine wl_p (fun _ => o_ne rfl rfl) ?_
        refine wl_p (fun _ => o_pick_t rfl rfl) ?_
        refine wl_p (fun _ => o_assign rfl) ?_
        refine wl_nil ?_
        refine ret1 rfl rfl ?_
        exact ⟨congrArg Value.bool (decide_eq_true hbz2), hw⟩
  · rw [if_neg he] at hr1e
    have htk : ¬ a.take 12 = b.take 12 := fun h => he (hba.2 h)
    have hkm : ¬ k = m := fun h => he (by rw [← ha, ← hb, h])
    subst hr1e
    by_cases hzt : z = b.set i (b[i]'(by omega) ^^^ by0)
    · rw [if_pos hzt] at hr2e
      subst hr2e
      refine rk_false rfl ?_
      refine rk_skip ?_
      refine rk_seq ?_
      refine rk_region ?_
      refine wl_p (fun _ => o_move rfl) ?_
      refine wl_p (fun _ => o_move rfl) ?_
      refine wl_p (fun _ => o_mul rfl rfl (by omega) (by omega)) ?_
      refine wl_p (fun _ => o_move rfl) ?_
      refine wl_slBh Tryd.u8 (256) rfl rfl f38.to_Rd (by omega) (by omega) (by omega) (by omega) ?_
      rintro f94
      refine wl_call rfl (C_OwnP _ f94 (by simp; omega) (by simp; omega)) ?_
      rintro v95 w95 ⟨A95, ⟨c95, ⟨rfl, ⟨f95, b95⟩⟩⟩⟩
      simp only [drew_size] at f95
      simp only [drew_size] at b95
      have qf95 := f95.cap
      have s95 := b95.size
      simp only [drew_size] at s95
      replace hw := hw.trans (b95.mono hw.size)
      replace f94 := f94.u b95
      replace f86 := f86.u b95
      replace f83 := f83.u b95
      replace f56 := f56.u b95
      replace f49 := f49.u b95
      replace f44 := f44.u b95
      replace f37 := f37.u b95
      replace f38 := f38.u b95
      replace f45 := f45.u b95
      replace f55 := f55.u b95
      refine wl_call rfl (C_dWriteN _ f49 f95.to_Rd hq1 wa1 rfl (by omega)) ?_
      rintro v96 w96 ⟨rfl, ⟨f96, g96⟩⟩
      have s96 := g96.size
      replace hw := hw.trans (g96.below hw.size (by omega))
      replace f55 := f55.c g96 (by omega)
      replace f45 := f45.c g96 (by omega)
      replace f38 := f38.c g96 (by omega)
      replace f37 := f37.c g96 (by omega)
      replace f44 := f44.c g96 (by omega)
      replace f56 := f56.c g96 (by omega)
      replace f95 := f95.c g96 (by omega)
      clear f49
      clear f83
      clear f86
      clear f94
      refine wl_nil ?_
      refine rk_seq ?_
      refine rk_region ?_
      refine wl_p (fun _ => o_move rfl) ?_
      refine wl_p (fun _ => o_move rfl) ?_
      refine wl_p (fun _ => o_mul rfl rfl (by omega) (by omega)) ?_
      refine wl_p (fun _ => o_add rfl rfl (by omega) (by omega)) ?_
      refine wl_p (fun _ => o_move rfl) ?_
      refine wl_slBl Tryd.u8 (256) rfl rfl f38.to_Rd (by omega) (by omega) (by omega) (by omega) ?_
      rintro A102 c102 f102 i102 i102_1
      refine wl_call rfl (C_OwnP _ f102 (by simp) (by simp; omega)) ?_
      rintro v103 w103 ⟨A103, ⟨c103, ⟨rfl, ⟨f103, b103⟩⟩⟩⟩
      have qf103 := f103.cap
      have s103 := b103.size
      replace hw := hw.trans (b103.mono hw.size)
      replace f102 := f102.u b103
      replace f95 := f95.u b103
      replace f56 := f56.u b103
      replace f44 := f44.u b103
      replace f37 := f37.u b103
      replace f38 := f38.u b103
      replace f45 := f45.u b103
      replace f55 := f55.u b103
      replace f96 := f96.u b103
      refine wl_call rfl (C_dWriteN _ f96 f103.to_Rd hq2 wa2 rfl (by omega)) ?_
      rintro v104 w104 ⟨rfl, ⟨f104, g104⟩⟩
      have s104 := g104.size
      replace hw := hw.trans (g104.below hw.size (by omega))
      replace f55 := f55.c g104 (by omega)
      replace f45 := f45.c g104 (by omega)
      replace f38 := f38.c g104 (by omega)
      replace f37 := f37.c g104 (by omega)
      replace f44 := f44.c g104 (by omega)
      replace f56 := f56.c g104 (by omega)
      replace f95 := f95.c g104 (by omega)
      replace f103 := f103.c g104 (by omega)
      clear f96
      clear f102
      refine wl_nil ?_
      refine rk_seq ?_
      refine rk_region ?_
      refine wl_p (fun _ => o_move rfl) ?_
      refine wl_p (fun _ => o_move rfl) ?_
      refine wl_call rfl (C_pRead _ f56 f104 hX hr1 (by omega) wm1) ?_
      rintro v108 w108 ⟨A108, ⟨c108, ⟨rfl, ⟨f108, ⟨i108, b108⟩⟩⟩⟩⟩
      dsimp only at f108
      dsimp only at i108
      dsimp only
      have s108 := b108.size
      replace hw := hw.trans (b108.mono hw.size)
      replace f103 := f103.u b108
      replace f95 := f95.u b108
      replace f56 := f56.u b108
      replace f44 := f44.u b108
      replace f37 := f37.u b108
      replace f38 := f38.u b108
      replace f45 := f45.u b108
      replace f55 := f55.u b108
      replace f104 := f104.u b108
      refine wl_p (fun _ => o_move rfl) ?_
      refine wl_p (fun _ => o_ext20 rfl) ?_
      refine wl_p (fun _ => o_ext21 rfl) ?_
      refine wl_p (fun _ => o_assign rfl) ?_
      refine wl_p (fun _ => o_assign rfl) ?_
      refine wl_nil ?_
      refine rk_seq ?_
      refine rk_draw (id := 15) (none) [0, 1, 2, 0, 8, 16, 36, 127] [0, 1, 3, 0, 8, 24, 63, 127] 0 0 [(.p, 0), (.p, 1), (.r, 2), (.p, 3), (.p, 4), (.r, 5), (.p, 6), (.p, 7)] (by kernel_rfl) (by kernel_rfl) (by kernel_rfl) (by kernel_rfl) (by kernel_rfl) ?_
      replace hw := hw.drew
      replace f104 := f104.d
      replace f55 := f55.d
      replace f45 := f45.d
      replace f38 := f38.d
      replace f37 := f37.d
      replace f44 := f44.d
      replace f56 := f56.d
      replace f95 := f95.d
      replace f103 := f103.d
      replace f108 := f108.d
      refine wl_p (fun _ => o_move rfl) ?_
      refine wl_slBh Tryd.u8 (12) rfl rfl f38.to_Rd (by omega) (by omega) (by omega) (by omega) ?_
      rintro f112
      refine wl_r (o_strU Tryd.underlying22 Tryd.underlying5 Tryd.underlying9 rfl f112 (Below.refl _ _) (by simp; omega)) ?_
      refine wl_p (fun _ => o_move rfl) ?_
      refine wl_slBh Tryd.u8 (12) rfl rfl f45.to_Rd (by omega) (by omega) (by omega) (by omega) ?_
      rintro f115
      refine wl_r (o_strU Tryd.underlying22 Tryd.underlying5 Tryd.underlying9 rfl f115 (Below.refl _ _) (by simp; omega)) ?_
      refine wl_p (fun _ => o_seq rfl rfl) ?_
      refine wl_p (fun _ => o_assign rfl) ?_
      refine wl_nild ?_
      refine rk_seq ?_
      refine rk_seq ?_
      refine rk_draw (id := 16) (none) [0, 1, 0, 6, 8, 16, 48, 80, 128, 384, 128, 1152, 2176, 4736, 8336, 16400, 32896, 65536, 196608, 327680, 524288, 1572864, 2686976, 4259840, 8912896, 16777216, 16777216, 117440512, 150994944, 268435456, 805306368, 1358954496, 2164260864] [0, 1, 0, 7, 15, 31, 63, 127, 255, 511, 255, 1279, 3327, 8191, 16383, 32767, 65535, 131071, 262143, 524287, 1048575, 2097151, 4194303, 8388607, 16777215, 33554431, 33554431, 134217727, 268435455, 536870911, 1073741823, 2147483647, 4294967295] 0 0 [(.p, 0), (.p, 1), (.p, 2), (.p, 3), (.p, 4), (.p, 5), (.p, 6), (.p, 7), (.p, 8), (.r, 9), (.p, 10), (.p, 11), (.r, 12), (.p, 13), (.p, 14), (.p, 15), (.p, 16), (.p, 17), (.p, 18), (.p, 19), (.p, 20), (.p, 21), (.p, 22), (.p, 23), (.p, 24), (.p, 25), (.p, 26), (.p, 27), (.p, 28), (.p, 29), (.p, 30), (.p, 31), (.p, 32)] (by kernel_rfl) (by kernel_rfl) (by kernel_rfl) (by kernel_rfl) (by kernel_rfl) ?_
      replace hw := hw.drew
      replace f115 := f115.d
      replace f112 := f112.d
      replace f108 := f108.d
      replace f103 := f103.d
      replace f95 := f95.d
      replace f56 := f56.d
      replace f44 := f44.d
      replace f37 := f37.d
      replace f38 := f38.d
      replace f45 := f45.d
      replace f55 := f55.d
      replace f104 := f104.d
      refine wl_p (fun _ => o_move rfl) ?_
      refine wl_p (fun _ => o_eq rfl rfl) ?_
      refine wl_p (fun _ => o_move rfl) ?_
      refine wl_p (fun _ => o_bne (t := 4) Tryd.underlying4 rfl rfl) ?_
      refine wl_p (fun _ => o_move rfl) ?_
      refine wl_know 122 false rfl (by simp; omega) ?_
      refine wl_p (fun _ => o_move rfl) ?_
      refine wl_p (fun _ => o_eq rfl rfl) ?_
      refine wl_p (fun _ => o_move rfl) ?_
      refine wl_off ?_
      refine wl_off ?_
      refine wl_off ?_
      refine wl_off ?_
      refine wl_off ?_
      refine wl_off ?_
      refine wl_p (fun _ => o_pick_f rfl rfl) ?_
      refine wl_p (fun _ => o_pick_f rfl rfl) ?_
      refine wl_p (fun _ => o_move rfl) ?_
      refine wl_p (fun _ => o_move rfl) ?_
      refine wl_p (fun _ => o_ne rfl rfl) ?_
      refine wl_p (fun _ => o_move rfl) ?_
      refine wl_p (fun _ => o_move rfl) ?_
      refine wl_p (fun _ => o_ne rfl rfl) ?_
      refine wl_p (fun _ => o_pick_t rfl rfl) ?_
      refine wl_p (fun _ => o_pick_f rfl rfl) ?_
      refine wl_p (fun _ => o_move rfl) ?_
      refine wl_p (fun _ => o_move rfl) ?_
      refine wl_p (fun _ => o_move rfl) ?_
      refine wl_p (fun _ => o_eq rfl rfl) ?_
      refine wl_p (fun _ => o_move rfl) ?_
      refine wl_know 146 false rfl (decide_eq_false (by omega)) ?_
      refine wl_off ?_
      refine wl_off ?_
      refine wl_p (fun _ => o_pick_f rfl rfl) ?_
      refine wl_p (fun _ => o_pick_f rfl rfl) ?_
      refine wl_nild ?_
      refine rk_false rfl ?_
      refine rk_skip ?_
      refine rk_seq ?_
      refine rk_region ?_
      refine wl_p (fun _ => o_move rfl) ?_
      refine wl_call rfl (C_OwnP _ f45.to_Rd (by omega) (by omega)) ?_
      rintro v152 w152 ⟨A152, ⟨c152, ⟨rfl, ⟨f152, b152⟩⟩⟩⟩
      simp only [drew_size] at f152
      simp only [drew_size] at b152
      have qf152 := f152.cap
      have s152 := b152.size
      simp only [drew_size] at s152
      replace hw := hw.trans (b152.mono hw.size)
      replace f104 := f104.u b152
      replace f55 := f55.u b152
      replace f45 := f45.u b152
      replace f38 := f38.u b152
      replace f37 := f37.u b152
      replace f44 := f44.u b152
      replace f56 := f56.u b152
      replace f95 := f95.u b152
      replace f103 := f103.u b152
      replace f108 := f108.u b152
      replace f112 := f112.u b152
      replace f115 := f115.u b152
      refine wl_p (fun _ => o_assign rfl) ?_
      refine wl_nil ?_
      refine rk_seq ?_
      refine rk_region ?_
      refine wl_p (fun _ => o_move rfl) ?_
      refine wl_p (fun _ => o_move rfl) ?_
      refine wl_p (fun _ => o_len (t := 22) Tryd.underlying22 rfl) ?_
      refine wl_call rfl (C_PickR _ hi2 wa wbl) ?_
      rintro v156 w156 ⟨rfl, b156⟩
      have s156 := b156.size
      replace hw := hw.trans (b156.mono hw.size)
      replace f115 := f115.u b156
      replace f112 := f112.u b156
      replace f108 := f108.u b156
      replace f103 := f103.u b156
      replace f95 := f95.u b156
      replace f56 := f56.u b156
      replace f44 := f44.u b156
      replace f37 := f37.u b156
      replace f38 := f38.u b156
      replace f45 := f45.u b156
      replace f55 := f55.u b156
      replace f104 := f104.u b156
      replace f152 := f152.u b156
      refine wl_p (fun _ => o_assign rfl) ?_
      refine wl_nil ?_
      refine rk_seq ?_
      refine rk_region ?_
      refine wl_p (fun _ => o_move rfl) ?_
      refine wl_p (fun _ => o_move rfl) ?_
      refine wl_p (fun _ => o_move rfl) ?_
      refine wl_p (fun _ => o_move rfl) ?_
      refine wl_p (fun _ => (o_iaddrA1 (i) Tryd.underlying22 Tryd.sizeOf5 rfl rfl rfl (f152.some_ (by omega)) (by omega))) ?_
      refine wl_r (o_loadB Tryd.isAgg5 rfl f152.to_Rd (by omega)) ?_
      refine wl_p (fun _ => o_move rfl) ?_
      refine wl_p (fun _ => o_xor8 rfl rfl) ?_
      refine wl_p (fun _ => (o_iaddrA1 (i) Tryd.underlying22 Tryd.sizeOf5 rfl rfl rfl (f152.some_ (by omega)) (by omega))) ?_
      refine wl_stO Tryd.sizeOf5 rfl f152 rfl (by omega) ?_
      rintro w_1 f g b_1 e
      have qf := f.cap
      have s := g.size
      replace hw := hw.trans (b_1.mono (by omega))
      replace f104 := f104.k g.g (f.ap (by omega))
      replace f55 := f55.y g (by decide)
      replace f45 := f45.k g.g (f.ap (by omega))
      replace f38 := f38.k g.g (f.ap (by omega))
      replace f37 := f37.k g.g (f.ap (by omega))
      replace f44 := f44.k g.g (f.ap (by omega))
      replace f56 := f56.y g (by decide)
      replace f95 := f95.k g.g (f.ap (by omega))
      replace f103 := f103.k g.g (f.ap (by omega))
      replace f108 := f108.k g.g (f.ap (by omega))
      clear f152
      clear f112
      clear f115
      refine wl_nil ?_
      refine rk_seq ?_
      refine rk_region ?_
      refine wl_p (fun _ => o_move rfl) ?_
      refine wl_p (fun _ => o_move rfl) ?_
      refine wl_p (fun _ => o_mul rfl rfl (by omega) (by omega)) ?_
      refine wl_p (fun _ => o_move rfl) ?_
      refine wl_slBh Tryd.u8 (256) rfl rfl f.to_Rd (by omega) (by omega) (by omega) (by omega) ?_
      rintro f170
      refine wl_call rfl (C_OwnP _ f170 (by simp; omega) (by simp; omega)) ?_
      rintro v171 w171 ⟨A171, ⟨c171, ⟨rfl, ⟨f171, b171⟩⟩⟩⟩
      have qf171 := f171.cap
      have s171 := b171.size
      replace hw := hw.trans (b171.mono hw.size)
      replace f170 := f170.u b171
      replace f108 := f108.u b171
      replace f103 := f103.u b171
      replace f95 := f95.u b171
      replace f56 := f56.u b171
      replace f44 := f44.u b171
      replace f37 := f37.u b171
      replace f38 := f38.u b171
      replace f45 := f45.u b171
      replace f55 := f55.u b171
      replace f104 := f104.u b171
      replace f := f.u b171
      refine wl_call rfl (C_dWriteN _ f104 f171.to_Rd hq3 wa1 rfl (by omega)) ?_
      rintro v172 w172 ⟨rfl, ⟨f172, g172⟩⟩
      have s172 := g172.size
      replace hw := hw.trans (g172.below hw.size (by omega))
      replace f := f.c g172 (by omega)
      replace f55 := f55.c g172 (by omega)
      replace f45 := f45.c g172 (by omega)
      replace f38 := f38.c g172 (by omega)
      replace f37 := f37.c g172 (by omega)
      replace f44 := f44.c g172 (by omega)
      replace f56 := f56.c g172 (by omega)
      replace f95 := f95.c g172 (by omega)
      replace f103 := f103.c g172 (by omega)
      replace f108 := f108.c g172 (by omega)
      replace f171 := f171.c g172 (by omega)
      clear f104
      clear f170
      refine wl_nil ?_
      refine rk_seq ?_
      refine rk_region ?_
      refine wl_p (fun _ => o_move rfl) ?_
      refine wl_p (fun _ => o_move rfl) ?_
      refine wl_p (fun _ => o_mul rfl rfl (by omega) (by omega)) ?_
      refine wl_p (fun _ => o_add rfl rfl (by omega) (by omega)) ?_
      refine wl_p (fun _ => o_move rfl) ?_
      refine wl_slBl Tryd.u8 (256) rfl rfl f.to_Rd (by omega) (by omega) (by omega) (by omega) ?_
      rintro A178 c178 f178 i178 i178_1
      refine wl_call rfl (C_OwnP _ f178 (by simp) (by simp; omega)) ?_
      rintro v179 w179 ⟨A179, ⟨c179, ⟨rfl, ⟨f179, b179⟩⟩⟩⟩
      have qf179 := f179.cap
      have s179 := b179.size
      replace hw := hw.trans (b179.mono hw.size)
      replace f178 := f178.u b179
      replace f171 := f171.u b179
      replace f108 := f108.u b179
      replace f103 := f103.u b179
      replace f95 := f95.u b179
      replace f56 := f56.u b179
      replace f44 := f44.u b179
      replace f37 := f37.u b179
      replace f38 := f38.u b179
      replace f45 := f45.u b179
      replace f55 := f55.u b179
      replace f := f.u b179
      replace f172 := f172.u b179
      refine wl_call rfl (C_dWriteN _ f172 f179.to_Rd hq4 wa2 rfl (by omega)) ?_
      rintro v180 w180 ⟨rfl, ⟨f180, g180⟩⟩
      have s180 := g180.size
      replace hw := hw.trans (g180.below hw.size (by omega))
      replace f := f.c g180 (by omega)
      replace f55 := f55.c g180 (by omega)
      replace f45 := f45.c g180 (by omega)
      replace f38 := f38.c g180 (by omega)
      replace f37 := f37.c g180 (by omega)
      replace f44 := f44.c g180 (by omega)
      replace f56 := f56.c g180 (by omega)
      replace f95 := f95.c g180 (by omega)
      replace f103 := f103.c g180 (by omega)
      replace f108 := f108.c g180 (by omega)
      replace f171 := f171.c g180 (by omega)
      replace f179 := f179.c g180 (by omega)
      clear f172
      clear f178
      refine wl_nil ?_
      refine rk_seq ?_
      refine rk_region ?_
      refine wl_p (fun _ => o_move rfl) ?_
      refine wl_p (fun _ => o_move rfl) ?_
      refine wl_call rfl (C_pRead _ f56 f180 hY hr2 (by omega) wm1) ?_
      rintro v184 w184 ⟨A184, ⟨c184, ⟨rfl, ⟨f184, ⟨i184, b184⟩⟩⟩⟩⟩
      dsimp only at f184
      dsimp only at i184
      dsimp only
      have s184 := b184.size
      replace hw := hw.trans (b184.mono hw.size)
      replace f179 := f179.u b184
      replace f171 := f171.u b184
      replace f108 := f108.u b184
      replace f103 := f103.u b184
      replace f95 := f95.u b184
      replace f56 := f56.u b184
      replace f44 := f44.u b184
      replace f37 := f37.u b184
      replace f38 := f38.u b184
      replace f45 := f45.u b184
      replace f55 := f55.u b184
      replace f := f.u b184
      replace f180 := f180.u b184
      refine wl_p (fun _ => o_move rfl) ?_
      refine wl_p (fun _ => o_ext20 rfl) ?_
      refine wl_p (fun _ => o_ext21 rfl) ?_
      refine wl_p (fun _ => o_assign rfl) ?_
      refine wl_p (fun _ => o_assign rfl) ?_
      refine wl_nil ?_
      refine rk_seq ?_
      refine rk_seq ?_
      refine rk_region ?_
      refine wl_p (fun _ => o_move rfl) ?_
      refine wl_p (fun _ => o_ne rfl rfl) ?_
      refine wl_nil ?_
      refine rk_false rfl ?_
      refine rk_skip ?_
      refine rk_seq ?_
      refine rk_region ?_
      refine wl_p (fun _ => o_move rfl) ?_
      refine wl_p (fun _ => o_move rfl) ?_
      refine wl_call rfl (C_OwnP _ f184.to_Rd rfl (by omega)) ?_
      rintro v198 w198 ⟨A198, ⟨c198, ⟨rfl, ⟨f198, b198⟩⟩⟩⟩
      have qf198 := f198.cap
      have s198 := b198.size
      replace hw := hw.trans (b198.mono hw.size)
      replace f180 := f180.u b198
      replace f := f.u b198
      replace f55 := f55.u b198
      replace f45 := f45.u b198
      replace f38 := f38.u b198
      replace f37 := f37.u b198
      replace f44 := f44.u b198
      replace f56 := f56.u b198
      replace f95 := f95.u b198
      replace f103 := f103.u b198
      replace f108 := f108.u b198
      replace f171 := f171.u b198
      replace f179 := f179.u b198
      replace f184 := f184.u b198
      refine wl_call rfl (C_pBytesOk _ f198.to_Rd rfl hz (by omega) rfl (by omega)) ?_
      rintro v199 w199 ⟨A199, ⟨c199, ⟨rfl, ⟨f199, ⟨e199, ⟨i199, ⟨i199_1, b199⟩⟩⟩⟩⟩⟩⟩
      have s199 := b199.size
      replace hw := hw.trans (b199.mono hw.size)
      replace f184 := f184.u b199
      replace f179 := f179.u b199
      replace f171 := f171.u b199
      replace f108 := f108.u b199
      replace f103 := f103.u b199
      replace f95 := f95.u b199
      replace f56 := f56.u b199
      replace f44 := f44.u b199
      replace f37 := f37.u b199
      replace f38 := f38.u b199
      replace f45 := f45.u b199
      replace f55 := f55.u b199
      replace f := f.u b199
      replace f180 := f180.u b199
      replace f198 := f198.u b199
      refine wl_p (fun _ => o_move rfl) ?_
      refine wl_p (fun _ => o_ext20 rfl) ?_
      refine wl_p (fun _ => o_ext21 rfl) ?_
      refine wl_p (fun _ => o_assign rfl) ?_
      refine wl_p (fun _ => o_assign rfl) ?_
      refine wl_nil ?_
      refine rk_seq ?_
      refine rk_region ?_
      refine wl_p (fun _ => o_move rfl) ?_
      refine wl_p (fun _ => o_eq rfl rfl) ?_
      refine wl_p (fun _ => o_move rfl) ?_
      refine wl_p (fun _ => o_move rfl) ?_
      refine wl_r (o_strU Tryd.underlying22 Tryd.underlying5 Tryd.underlying9 rfl f199.to_Rd (Below.refl _ _) (by omega)) ?_
      refine wl_p (fun _ => o_move rfl) ?_
      refine wl_r (o_strU Tryd.underlying22 Tryd.underlying5 Tryd.underlying9 rfl f.to_Rd (Below.refl _ _) (by omega)) ?_
      refine wl_p (fun _ => o_seq rfl rfl) ?_
      refine wl_p (fun _ => o_pick_t rfl rfl) ?_
      refine wl_p (fun _ => o_assign rfl) ?_
      refine wl_nil ?_
      refine ret1 rfl rfl ?_
      exact ⟨congrArg Value.bool (decide_eq_true hzt), hw⟩
    · rw [if_neg hzt] at hr2e
      have hbz := hby hzt
      have hbz2 : ¬ (by0.toNat : Int) = 0 := fun h => hbz (UInt8.toNat_inj.1 (by show by0.toNat = 0; omega))
      subst hr2e
      refine rk_false rfl ?_
      refine rk_skip ?_
      refine rk_seq ?_
      refine rk_region ?_
      refine wl_p (fun _ => o_move rfl) ?_
      refine wl_p (fun _ => o_move rfl) ?_
      refine wl_p (fun _ => o_mul rfl rfl (by omega) (by omega)) ?_
      refine wl_p (fun _ => o_move rfl) ?_
      refine wl_slBh Tryd.u8 (256) rfl rfl f38.to_Rd (by omega) (by omega) (by omega) (by omega) ?_
      rintro f94
      refine wl_call rfl (C_OwnP _ f94 (by simp; omega) (by simp; omega)) ?_
      rintro v95 w95 ⟨A95, ⟨c95, ⟨rfl, ⟨f95, b95⟩⟩⟩⟩
      simp only [drew_size] at f95
      simp only [drew_size] at b95
      have qf95 := f95.cap
      have s95 := b95.size
      simp only [drew_size] at s95
      replace hw := hw.trans (b95.mono hw.size)
      replace f94 := f94.u b95
      replace f86 := f86.u b95
      replace f83 := f83.u b95
      replace f56 := f56.u b95
      replace f49 := f49.u b95
      replace f44 := f44.u b95
      replace f37 := f37.u b95
      replace f38 := f38.u b95
      replace f45 := f45.u b95
      replace f55 := f55.u b95
      refine wl_call rfl (C_dWriteN _ f49 f95.to_Rd hq1 wa1 rfl (by omega)) ?_
      rintro v96 w96 ⟨rfl, ⟨f96, g96⟩⟩
      have s96 := g96.size
      replace hw := hw.trans (g96.below hw.size (by omega))
      replace f55 := f55.c g96 (by omega)
      replace f45 := f45.c g96 (by omega)
      replace f38 := f38.c g96 (by omega)
      replace f37 := f37.c g96 (by omega)
      replace f44 := f44.c g96 (by omega)
      replace f56 := f56.c g96 (by omega)
      replace f95 := f95.c g96 (by omega)
      clear f49
      clear f83
      clear f86
      clear f94
      refine wl_nil ?_
      refine rk_seq ?_
      refine rk_region ?_
      refine wl_p (fun _ => o_move rfl) ?_
      refine wl_p (fun _ => o_move rfl) ?_
      refine wl_p (fun _ => o_mul rfl rfl (by omega) (by omega)) ?_
      refine wl_p (fun _ => o_add rfl rfl (by omega) (by omega)) ?_
      refine wl_p (fun _ => o_move rfl) ?_
      refine wl_slBl Tryd.u8 (256) rfl rfl f38.to_Rd (by omega) (by omega) (by omega) (by omega) ?_
      rintro A102 c102 f102 i102 i102_1
      refine wl_call rfl (C_OwnP _ f102 (by simp) (by simp; omega)) ?_
      rintro v103 w103 ⟨A103, ⟨c103, ⟨rfl, ⟨f103, b103⟩⟩⟩⟩
      have qf103 := f103.cap
      have s103 := b103.size
      replace hw := hw.trans (b103.mono hw.size)
      replace f102 := f102.u b103
      replace f95 := f95.u b103
      replace f56 := f56.u b103
      replace f44 := f44.u b103
      replace f37 := f37.u b103
      replace f38 := f38.u b103
      replace f45 := f45.u b103
      replace f55 := f55.u b103
      replace f96 := f96.u b103
      refine wl_call rfl (C_dWriteN _ f96 f103.to_Rd hq2 wa2 rfl (by omega)) ?_
      rintro v104 w104 ⟨rfl, ⟨f104, g104⟩⟩
      have s104 := g104.size
      replace hw := hw.trans (g104.below hw.size (by omega))
      replace f55 := f55.c g104 (by omega)
      replace f45 := f45.c g104 (by omega)
      replace f38 := f38.c g104 (by omega)
      replace f37 := f37.c g104 (by omega)
      replace f44 := f44.c g104 (by omega)
      replace f56 := f56.c g104 (by omega)
      replace f95 := f95.c g104 (by omega)
      replace f103 := f103.c g104 (by omega)
      clear f96
      clear f102
      refine wl_nil ?_
      refine rk_seq ?_
      refine rk_region ?_
      refine wl_p (fun _ => o_move rfl) ?_
      refine wl_p (fun _ => o_move rfl) ?_
      refine wl_call rfl (C_pRead _ f56 f104 hX hr1 (by omega) wm1) ?_
      rintro v108 w108 ⟨A108, ⟨c108, ⟨rfl, ⟨f108, ⟨i108, b108⟩⟩⟩⟩⟩
      dsimp only at f108
      dsimp only at i108
      dsimp only
      have s108 := b108.size
      replace hw := hw.trans (b108.mono hw.size)
      replace f103 := f103.u b108
      replace f95 := f95.u b108
      replace f56 := f56.u b108
      replace f44 := f44.u b108
      replace f37 := f37.u b108
      replace f38 := f38.u b108
      replace f45 := f45.u b108
      replace f55 := f55.u b108
      replace f104 := f104.u b108
      refine wl_p (fun _ => o_move rfl) ?_
      refine wl_p (fun _ => o_ext20 rfl) ?_
      refine wl_p (fun _ => o_ext21 rfl) ?_
      refine wl_p (fun _ => o_assign rfl) ?_
      refine wl_p (fun _ => o_assign rfl) ?_
      refine wl_nil ?_
      refine rk_seq ?_
      refine rk_draw (id := 15) (none) [0, 1, 2, 0, 8, 16, 36, 127] [0, 1, 3, 0, 8, 24, 63, 127] 0 0 [(.p, 0), (.p, 1), (.r, 2), (.p, 3), (.p, 4), (.r, 5), (.p, 6), (.p, 7)] (by kernel_rfl) (by kernel_rfl) (by kernel_rfl) (by kernel_rfl) (by kernel_rfl) ?_
      replace hw := hw.drew
      replace f104 := f104.d
      replace f55 := f55.d
      replace f45 := f45.d
      replace f38 := f38.d
      replace f37 := f37.d
      replace f44 := f44.d
      replace f56 := f56.d
      replace f95 := f95.d
      replace f103 := f103.d
      replace f108 := f108.d
      refine wl_p (fun _ => o_move rfl) ?_
      refine wl_slBh Tryd.u8 (12) rfl rfl f38.to_Rd (by omega) (by omega) (by omega) (by omega) ?_
      rintro f112
      refine wl_r (o_strU Tryd.underlying22 Tryd.underlying5 Tryd.underlying9 rfl f112 (Below.refl _ _) (by simp; omega)) ?_
      refine wl_p (fun _ => o_move rfl) ?_
      refine wl_slBh Tryd.u8 (12) rfl rfl f45.to_Rd (by omega) (by omega) (by omega) (by omega) ?_
      rintro f115
      refine wl_r (o_strU Tryd.underlying22 Tryd.underlying5 Tryd.underlying9 rfl f115 (Below.refl _ _) (by simp; omega)) ?_
      refine wl_p (fun _ => o_seq rfl rfl) ?_
      refine wl_p (fun _ => o_assign rfl) ?_
      refine wl_nild ?_
      refine rk_seq ?_
      refine rk_seq ?_
      refine rk_draw (id := 16) (none) [0, 1, 0, 6, 8, 16, 48, 80, 128, 384, 128, 1152, 2176, 4736, 8336, 16400, 32896, 65536, 196608, 327680, 524288, 1572864, 2686976, 4259840, 8912896, 16777216, 16777216, 117440512, 150994944, 268435456, 805306368, 1358954496, 2164260864] [0, 1, 0, 7, 15, 31, 63, 127, 255, 511, 255, 1279, 3327, 8191, 16383, 32767, 65535, 131071, 262143, 524287, 1048575, 2097151, 4194303, 8388607, 16777215, 33554431, 33554431, 134217727, 268435455, 536870911, 1073741823, 2147483647, 4294967295] 0 0 [(.p, 0), (.p, 1), (.p, 2), (.p, 3), (.p, 4), (.p, 5), (.p, 6), (.p, 7), (.p, 8), (.r, 9), (.p, 10), (.p, 11), (.r, 12), (.p, 13), (.p, 14), (.p, 15), (.p, 16), (.p, 17), (.p, 18), (.p, 19), (.p, 20), (.p, 21), (.p, 22), (.p, 23), (.p, 24), (.p, 25), (.p, 26), (.p, 27), (.p, 28), (.p, 29), (.p, 30), (.p, 31), (.p, 32)] (by kernel_rfl) (by kernel_rfl) (by kernel_rfl) (by kernel_rfl) (by kernel_rfl) ?_
      replace hw := hw.drew
      replace f115 := f115.d
      replace f112 := f112.d
      replace f108 := f108.d
      replace f103 := f103.d
      replace f95 := f95.d
      replace f56 := f56.d
      replace f44 := f44.d
      replace f37 := f37.d
      replace f38 := f38.d
      replace f45 := f45.d
      replace f55 := f55.d
      replace f104 := f104.d
      refine wl_p (fun _ => o_move rfl) ?_
      refine wl_p (fun _ => o_eq rfl rfl) ?_
      refine wl_p (fun _ => o_move rfl) ?_
      refine wl_p (fun _ => o_bne (t := 4) Tryd.underlying4 rfl rfl) ?_
      refine wl_p (fun _ => o_move rfl) ?_
      refine wl_know 122 false rfl (by simp; omega) ?_
      refine wl_p (fun _ => o_move rfl) ?_
      refine wl_p (fun _ => o_eq rfl rfl) ?_
      refine wl_p (fun _ => o_move rfl) ?_
      refine wl_off ?_
      refine wl_off ?_
      refine wl_off ?_
      refine wl_off ?_
      refine wl_off ?_
      refine wl_off ?_
      refine wl_p (fun _ => o_pick_f rfl rfl) ?_
      refine wl_p (fun _ => o_pick_f rfl rfl) ?_
      refine wl_p (fun _ => o_move rfl) ?_
      refine wl_p (fun _ => o_move rfl) ?_
      refine wl_p (fun _ => o_ne rfl rfl) ?_
      refine wl_p (fun _ => o_move rfl) ?_
      refine wl_p (fun _ => o_move rfl) ?_
      refine wl_p (fun _ => o_ne rfl rfl) ?_
      refine wl_p (fun _ => o_pick_t rfl rfl) ?_
      refine wl_p (fun _ => o_pick_f rfl rfl) ?_
      refine wl_p (fun _ => o_move rfl) ?_
      refine wl_p (fun _ => o_move rfl) ?_
      refine wl_p (fun _ => o_move rfl) ?_
      refine wl_p (fun _ => o_eq rfl rfl) ?_
      refine wl_p (fun _ => o_move rfl) ?_
      refine wl_know 146 false rfl (decide_eq_false (by omega)) ?_
      refine wl_off ?_
      refine wl_off ?_
      refine wl_p (fun _ => o_pick_f rfl rfl) ?_
      refine wl_p (fun _ => o_pick_f rfl rfl) ?_
      refine wl_nild ?_
      refine rk_false rfl ?_
      refine rk_skip ?_
      refine rk_seq ?_
      refine rk_region ?_
      refine wl_p (fun _ => o_move rfl) ?_
      refine wl_call rfl (C_OwnP _ f45.to_Rd (by omega) (by omega)) ?_
      rintro v152 w152 ⟨A152, ⟨c152, ⟨rfl, ⟨f152, b152⟩⟩⟩⟩
      simp only [drew_size] at f152
      simp only [drew_size] at b152
      have qf152 := f152.cap
      have s152 := b152.size
      simp only [drew_size] at s152
      replace hw := hw.trans (b152.mono hw.size)
      replace f104 := f104.u b152
      replace f55 := f55.u b152
      replace f45 := f45.u b152
      replace f38 := f38.u b152
      replace f37 := f37.u b152
      replace f44 := f44.u b152
      replace f56 := f56.u b152
      replace f95 := f95.u b152
      replace f103 := f103.u b152
      replace f108 := f108.u b152
      replace f112 := f112.u b152
      replace f115 := f115.u b152
      refine wl_p (fun _ => o_assign rfl) ?_
      refine wl_nil ?_
      refine rk_seq ?_
      refine rk_region ?_
      refine wl_p (fun _ => o_move rfl) ?_
      refine wl_p (fun _ => o_move rfl) ?_
      refine wl_p (fun _ => o_len (t := 22) Tryd.underlying22 rfl) ?_
      refine wl_call rfl (C_PickR _ hi2 wa wbl) ?_
      rintro v156 w156 ⟨rfl, b156⟩
      have s156 := b156.size
      replace hw := hw.trans (b156.mono hw.size)
      replace f115 := f115.u b156
      replace f112 := f112.u b156
      replace f108 := f108.u b156
      replace f103 := f103.u b156
      replace f95 := f95.u b156
      replace f56 := f56.u b156
      replace f44 := f44.u b156
      replace f37 := f37.u b156
      replace f38 := f38.u b156
      replace f45 := f45.u b156
      replace f55 := f55.u b156
      replace f104 := f104.u b156
      replace f152 := f152.u b156
      refine wl_p (fun _ => o_assign rfl) ?_
      refine wl_nil ?_
      refine rk_seq ?_
      refine rk_region ?_
      refine wl_p (fun _ => o_move rfl) ?_
      refine wl_p (fun _ => o_move rfl) ?_
      refine wl_p (fun _ => o_move rfl) ?_
      refine wl_p (fun _ => o_move rfl) ?_
      refine wl_p (fun _ => (o_iaddrA1 (i) Tryd.underlying22 Tryd.sizeOf5 rfl rfl rfl (f152.some_ (by omega)) (by omega))) ?_
      refine wl_r (o_loadB Tryd.isAgg5 rfl f152.to_Rd (by omega)) ?_
      refine wl_p (fun _ => o_move rfl) ?_
      refine wl_p (fun _ => o_xor8 rfl rfl) ?_
      refine wl_p (fun _ => (o_iaddrA1 (i) Tryd.underlying22 Tryd.sizeOf5 rfl rfl rfl (f152.some_ (by omega)) (by omega))) ?_
      refine wl_stO Tryd.sizeOf5 rfl f152 rfl (by omega) ?_
      rintro w_1 f g b_1 e
      have qf := f.cap
      have s := g.size
      replace hw := hw.trans (b_1.mono (by omega))
      replace f104 := f104.k g.g (f.ap (by omega))
      replace f55 := f55.y g (by decide)
      replace f45 := f45.k g.g (f.ap (by omega))
      replace f38 := f38.k g.g (f.ap (by omega))
      replace f37 := f37.k g.g (f.ap (by omega))
      replace f44 := f44.k g.g (f.ap (by omega))
      replace f56 := f56.y g (by decide)
      replace f95 := f95.k g.g (f.ap (by omega))
      replace f103 := f103.k g.g (f.ap (by omega))
      replace f108 := f108.k g.g (f.ap (by omega))
      clear f152
      clear f112
      clear f115
      refine wl_nil ?_
      refine rk_seq ?_
      refine rk_region ?_
      refine wl_p (fun _ => o_move rfl) ?_
      refine wl_p (fun _ => o_move rfl) ?_
      refine wl_p (fun _ => o_mul rfl rfl (by omega) (by omega)) ?_
      refine wl_p (fun _ => o_move rfl) ?_
      refine wl_slBh Tryd.u8 (256) rfl rfl f.to_Rd (by omega) (by omega) (by omega) (by omega) ?_
      rintro f170
      refine wl_call rfl (C_OwnP _ f170 (by simp; omega) (by simp; omega)) ?_
      rintro v171 w171 ⟨A171, ⟨c171, ⟨rfl, ⟨f171, b171⟩⟩⟩⟩
      have qf171 := f171.cap
      have s171 := b171.size
      replace hw := hw.trans (b171.mono hw.size)
      replace f170 := f170.u b171
      replace f108 := f108.u b171
      replace f103 := f103.u b171
      replace f95 := f95.u b171
      replace f56 := f56.u b171
      replace f44 := f44.u b171
      replace f37 := f37.u b171
      replace f38 := f38.u b171
      replace f45 := f45.u b171
      replace f55 := f55.u b171
      replace f104 := f104.u b171
      replace f := f.u b171
      refine wl_call rfl (C_dWriteN _ f104 f171.to_Rd hq3 wa1 rfl (by omega)) ?_
      rintro v172 w172 ⟨rfl, ⟨f172, g172⟩⟩
      have s172 := g172.size
      replace hw := hw.trans (g172.below hw.size (by omega))
      replace f := f.c g172 (by omega)
      replace f55 := f55.c g172 (by omega)
      replace f45 := f45.c g172 (by omega)
      replace f38 := f38.c g172 (by omega)
      replace f37 := f37.c g172 (by omega)
      replace f44 := f44.c g172 (by omega)
      replace f56 := f56.c g172 (by omega)
      replace f95 := f95.c g172 (by omega)
      replace f103 := f103.c g172 (by omega)
      replace f108 := f108.c g172 (by omega)
      replace f171 := f171.c g172 (by omega)
      clear f104
      clear f170
      refine wl_nil ?_
      refine rk_seq ?_
      refine rk_region ?_
      refine wl_p (fun _ => o_move rfl) ?_
      refine wl_p (fun _ => o_move rfl) ?_
      refine wl_p (fun _ => o_mul rfl rfl (by omega) (by omega)) ?_
      refine wl_p (fun _ => o_add rfl rfl (by omega) (by omega)) ?_
      refine wl_p (fun _ => o_move rfl) ?_
      refine wl_slBl Tryd.u8 (256) rfl rfl f.to_Rd (by omega) (by omega) (by omega) (by omega) ?_
      rintro A178 c178 f178 i178 i178_1
      refine wl_call rfl (C_OwnP _ f178 (by simp) (by simp; omega)) ?_
      rintro v179 w179 ⟨A179, ⟨c179, ⟨rfl, ⟨f179, b179⟩⟩⟩⟩
      have qf179 := f179.cap
      have s179 := b179.size
      replace hw := hw.trans (b179.mono hw.size)
      replace f178 := f178.u b179
      replace f171 := f171.u b179
      replace f108 := f108.u b179
      replace f103 := f103.u b179
      replace f95 := f95.u b179
      replace f56 := f56.u b179
      replace f44 := f44.u b179
      replace f37 := f37.u b179
      replace f38 := f38.u b179
      replace f45 := f45.u b179
      replace f55 := f55.u b179
      replace f := f.u b179
      replace f172 := f172.u b179
      refine wl_call rfl (C_dWriteN _ f172 f179.to_Rd hq4 wa2 rfl (by omega)) ?_
      rintro v180 w180 ⟨rfl, ⟨f180, g180⟩⟩
      have s180 := g180.size
      replace hw := hw.trans (g180.below hw.size (by omega))
      replace f := f.c g180 (by omega)
      replace f55 := f55.c g180 (by omega)
      replace f45 := f45.c g180 (by omega)
      replace f38 := f38.c g180 (by omega)
      replace f37 := f37.c g180 (by omega)
      replace f44 := f44.c g180 (by omega)
      replace f56 := f56.c g180 (by omega)
      replace f95 := f95.c g180 (by omega)
      replace f103 := f103.c g180 (by omega)
      replace f108 := f108.c g180 (by omega)
      replace f171 := f171.c g180 (by omega)
      replace f179 := f179.c g180 (by omega)
      clear f172
      clear f178
      refine wl_nil ?_
      refine rk_seq ?_
      refine rk_region ?_
      refine wl_p (fun _ => o_move rfl) ?_
      refine wl_p (fun _ => o_move rfl) ?_
      refine wl_call rfl (C_pRead _ f56 f180 hY hr2 (by omega) wm1) ?_
      rintro v184 w184 ⟨A184, ⟨c184, ⟨rfl, ⟨f184, ⟨i184, b184⟩⟩⟩⟩⟩
      dsimp only at f184
      dsimp only at i184
      dsimp only
      have s184 := b184.size
      replace hw := hw.trans (b184.mono hw.size)
      replace f179 := f179.u b184
      replace f171 := f171.u b184
      replace f108 := f108.u b184
      replace f103 := f103.u b184
      replace f95 := f95.u b184
      replace f56 := f56.u b184
      replace f44 := f44.u b184
      replace f37 := f37.u b184
      replace f38 := f38.u b184
      replace f45 := f45.u b184
      replace f55 := f55.u b184
      replace f := f.u b184
      replace f180 := f180.u b184
      refine wl_p (fun _ => o_move rfl) ?_
      refine wl_p (fun _ => o_ext20 rfl) ?_
      refine wl_p (fun _ => o_ext21 rfl) ?_
      refine wl_p (fun _ => o_assign rfl) ?_
      refine wl_p (fun _ => o_assign rfl) ?_
      refine wl_nil ?_
      refine rk_seq ?_
      refine rk_seq ?_
      refine rk_region ?_
      refine wl_p (fun _ => o_move rfl) ?_
      refine wl_p (fun _ => o_ne rfl rfl) ?_
      refine wl_nil ?_
      refine rk_true rfl ?_
      refine rk_seq ?_
      refine rk_region ?_
      refine wl_p (fun _ => o_move rfl) ?_
      refine wl_p (fun _ => o_eq rfl rfl) ?_
      refine wl_p (fun _ => o_move rfl) ?_
      refine wl_p (fun _ => o_move rfl) ?_
      refine wl_p (fun _ => o_ne rfl rfl) ?_
      refine wl_p (fun _ => o_pick_t rfl rfl) ?_
      refine wl_p (fun _ => o_assign rfl) ?_
      refine wl_nil ?_
      refine ret1 rfl rfl ?_
      exact ⟨congrArg Value.bool (decide_eq_true hbz2), hw⟩
end Go.Proofs.YtklijaahbahcoaaDoor
/-
  The table of math/bits, out of what the row lists.
-/
namespace Go.Proofs.YtklijaahbahcoaaDoor
set_option maxRecDepth 100000
open Go.ChangeShapes Go.WideShapes Go.ChangeAt Go.RowKit
abbrev tabLaid : List (String × DataW Unit) := [("math/bits.deBruijn64tab", Rows.laid_math_bits_deBruijn64tab)]
theorem tab_datum : (Rows.laid_math_bits_deBruijn64tab : DataW Unit) = .agg (tabL.map fun b => .lit (.int .u8 (b.toNat : Int))) := rfl
theorem tab_of_laid {W : World} (h : laidMetH Tryd.prog tabLaid W) : TabAt0 W 0 := by
  rw [MakeChecks.laidMetH_plain _ _ _ (by kernel_rfl)] at h
  obtain ⟨ps, ⟨g, t, cs, fuel, p, q, hg, ht, hv, hd, _, _⟩, _, _⟩ := h
  obtain rfl := Option.some.inj ((show Tryd.prog.globalNamed "math/bits.deBruijn64tab" = some 0 by kernel_rfl).symm.trans hg)
  obtain rfl := Option.some.inj ((show (Tryd.prog.globals[0]?).map (·.type) = some 80 by kernel_rfl).symm.trans ht)
  obtain ⟨xs, m, _, ex, _, hl, hel⟩ := DataW.trod_array Tryd.underlying80 hd
  have c5 : Tryd.prog.cellsOf 5 = 1 := by kernel_rfl
  have hlen : tabL.length = 64 := rfl
  rw [tab_datum] at ex
  have e3 : (xs.map (·.1)) = tabL.map fun b => (DataW.lit (.int .u8 (b.toNat : Int)) : DataW Unit) := (DataW.agg.inj (Prod.mk.inj ex).1).symm
  have hcell : ∀ r : Nat, (hr : r < 64) → W.cell? ⟨0, r, none⟩ = some (.int .u8 ((tabL[r]'(by omega)).toNat : Int)) := fun r hr => by
    have hE := hel r hr
    rw [c5, Nat.mul_one, List.getElem?_eq_getElem (by omega)] at hE
    obtain ⟨z, e1, e2, _⟩ := DataW.trod_int Tryd.underlying5 hE
    have e4 : (xs.map (·.1))[r]? = (tabL.map fun b => (DataW.lit (.int .u8 (b.toNat : Int)) : DataW Unit))[r]? := by rw [e3]
    rw [List.getElem?_map, List.getElem?_map, List.getElem?_eq_getElem (by omega : r < xs.length), List.getElem?_eq_getElem (by omega : r < tabL.length), e2] at e4
    have hz : z = ((tabL[r]'(by omega)).toNat : Int) := by
      simp only [Option.map_some, Option.some.injEq, DataW.lit.injEq, Lit.int.injEq, true_and] at e4
      exact e4
    rw [World.var?_cell hg hv r, ← hz]
    have : cs.toList[r]? = some (.int .u8 z) := by
      have h0 : ((cs.toList.drop r).take 1)[0]? = some (.int .u8 z) := by rw [e1]; rfl
      simpa using h0
    simpa using this
  refine ⟨⟨by rw [B8_length, hlen], fun _ => ⟨_, 0, rfl, fun j u hj => ?_⟩⟩, fun k e => ?_⟩
  · have hj2 : j < 64 := by
      rcases Nat.lt_or_ge j 64 with h | h
      · exact h
      · rw [List.getElem?_eq_none (by rw [B8_length, hlen]; exact h)] at hj; cases hj
    rw [Nat.zero_add, hcell j hj2, ← hj]
    unfold B8
    rw [List.getElem?_map, List.getElem?_eq_getElem (by omega)]; rfl
  · have : 0 = k := by simpa [blk] using e
    omega
end Go.Proofs.YtklijaahbahcoaaDoor
