/-
  Walks: PagesNil, PagesNames.
-/
import Derived.Test.YtklijaahbahcoaaDoorMg8
import Derived.OpenShut
import Derived.Maps.OwnSet
import Derived.Maps.Range
import Derived.Carry
import Derived.Lib.SlKeysI
namespace Go.Proofs.YtklijaahbahcoaaDoor
set_option maxRecDepth 100000
open Go.RowKit
theorem ev_zero : ((sumP [leB 4 1, List.replicate 500 0]).take 12 = List.replicate 12 0) = False := by
  have h : decide ((sumP [leB 4 1, List.replicate 500 0]).take 12 = List.replicate 12 0) = false := by kernel_rfl
  exact eq_false (of_decide_eq_false h)
theorem ev_read1 : readP (List.replicate 5 z256) [false, true] 1 = ([], 4) := by
  have e : pgAll (List.replicate 5 z256) 1 = List.replicate 512 0 := rfl
  rw [readP, show usdAt [false, true] 1 = true from rfl, if_pos rfl, show (1 : Int).toNat = 1 from rfl, e, if_neg]
  intro h
  have h1 := congrArg (List.take 12) h
  have hb : bodyL ((List.replicate 512 (0 : UInt8)).drop 12) = List.replicate 500 0 := by rw [List.drop_replicate, bodyL_full (by simp)]
  rw [pageL, hb, List.take_append_of_le_length (by rw [List.length_take, sumP_len]; decide), List.take_of_length_le (by rw [List.length_take, sumP_len]; decide), List.take_replicate] at h1
  exact (ev_zero ▸ h1 : False)
set_option maxRecDepth 100000 in
theorem C_PagesNil {v : Value} {a : PAct} (w : World) (ha : PaV w a v) (hT : TabAt0 w 0) :
    CallsR Tryd.prog 6 [v] w fun v w' => v = .bool true ∧ Below w.heap.size w w' := by
  obtain ⟨K, c, B, d, rfl, hK, hB, hc, hcm, hd, hdm, w1, w2, wz⟩ := ha
  obtain ⟨k, t, zs, b⟩ := a
  dsimp only at hK hB hc hd w1 w2 wz ⊢
  refine callsR Tryd.func6 rfl rfl (by kernel_rfl) rfl ?_
  have hw := Below.refl w.heap.size w
  refine rk_seq ?_
  refine rk_region ?_
  refine wl_boxg [_, _, _, _] rfl (by rfl) ?_
  rintro g1 w1_1 f1 b1 i1 i1_1
  have s1 := b1.size
  replace hw := hw.trans (b1.mono hw.size)
  refine wl_p (fun _ => o_assign rfl) ?_
  refine wl_nil ?_
  refine rk_seq ?_
  refine rk_seq ?_
  refine rk_region ?_
  refine wl_call rfl (C_lives10 _ (hT.u hw)) ?_
  rintro v14 w14 ⟨rfl, b14⟩
  have s14 := b14.size
  replace hw := hw.trans (b14.mono hw.size)
  replace f1 := f1.u b14
  refine wl_p (fun _ => o_not rfl) ?_
  refine wl_nil ?_
  refine rk_false rfl ?_
  refine rk_skip ?_
  refine rk_seq ?_
  refine rk_seq ?_
  refine rk_region ?_
  refine wl_r (o_loadag Tryd.isAgg50 Tryd.sizeOf50 rfl f1 (by rfl)) ?_
  refine wl_litPAct1 (by rfl) rfl (hK.u hw) (hB.u hw) rfl rfl (by omega) (by omega) (by omega) (by omega) w1 w2 (by omega) (by rfl) ?_
  rintro A17 w17 f17 b17
  have s17 := b17.size
  replace hw := hw.trans (b17.mono hw.size)
  replace f1 := f1.u b17
  refine wl_call rfl (C_small10 _ f17 (by rfl) (by decide)) ?_
  rintro v18 w18 ⟨b18, ⟨rfl, ⟨i18, b18_1⟩⟩⟩
  have s18 := b18_1.size
  replace hw := hw.trans (b18_1.mono hw.size)
  replace f1 := f1.u b18_1
  replace f17 := f17.u b18_1
  refine wl_p (fun _ => o_not rfl) ?_
  refine wl_nil ?_
  cases b18 with
  | false =>
    refine rk_true rfl ?_
    refine rk_seq ?_
    refine rk_region ?_
    refine wl_p (fun _ => o_assign rfl) ?_
    refine wl_nil ?_
    refine ret1 rfl rfl ?_
    exact ⟨rfl, hw⟩
  | true =>
    have hs := (show true = true ↔ smallP [(k, t, zs, b)] by assumption).1 rfl
    obtain ⟨hbl, hzl⟩ := hs.2 _ (List.mem_singleton.2 rfl)
    dsimp only at hbl hzl
    by_cases hok : 0 ≤ t ∧ t < 2147483648 ∧ b.length ≤ 500
    · obtain ⟨n, hn⟩ : ∃ n : Nat, t = (n : Int) := ⟨t.toNat, by omega⟩
      subst hn
      obtain ⟨r, hr⟩ : ∃ r, pageL n b = r := ⟨_, rfl⟩
      refine rk_false rfl ?_
      refine rk_skip ?_
      refine rk_seq ?_
      refine rk_region ?_
      refine wl_p (fun _ => o_assign rfl) ?_
      refine wl_nil ?_
      refine rk_seq ?_
      refine rk_region ?_
      refine wl_p (fun _ => o_move rfl) ?_
      refine wl_p (fun _ => o_faddr (s := 50) (i := 3) (off := 3) Tryd.underlying50 rfl Tryd.sizeOf22 rfl rfl rfl) ?_
      refine wl_r (o_loadbg Tryd.isAgg22 rfl f1 (by rfl)) ?_
      refine wl_call rfl (C_pNewNil _) ?_
      rintro v24 w24 ⟨rfl, b24⟩
      have s24 := b24.size
      replace hw := hw.trans (b24.mono hw.size)
      replace f17 := f17.u b24
      replace f1 := f1.u b24
      refine wl_p (fun _ => o_move rfl) ?_
      refine wl_p (fun _ => o_ext20 rfl) ?_
      refine wl_p (fun _ => o_ext21 rfl) ?_
      refine wl_p (fun _ => o_assign rfl) ?_
      refine wl_p (fun _ => o_assign rfl) ?_
      refine wl_nil ?_
      refine rk_seq ?_
      refine rk_region ?_
      refine wl_p (fun _ => o_move rfl) ?_
      refine wl_p (fun _ => o_faddr (s := 50) (i := 1) (off := 1) Tryd.underlying50 rfl Tryd.sizeOf3 rfl rfl rfl) ?_
      refine wl_r (o_loadbg Tryd.isAgg3 rfl f1 (by rfl)) ?_
      refine wl_call rfl (C_pReadNil _) ?_
      rintro v31 w31 ⟨rfl, b31⟩
      have s31 := b31.size
      replace hw := hw.trans (b31.mono hw.size)
      replace f1 := f1.u b31
      replace f17 := f17.u b31
      refine wl_p (fun _ => o_move rfl) ?_
      refine wl_p (fun _ => o_ext20 rfl) ?_
      refine wl_p (fun _ => o_ext21 rfl) ?_
      refine wl_p (fun _ => o_assign rfl) ?_
      refine wl_p (fun _ => o_assign rfl) ?_
      refine wl_nil ?_
      refine rk_seq ?_
      refine rk_region ?_
      refine wl_p (fun _ => o_move rfl) ?_
      refine wl_p (fun _ => o_faddr (s := 50) (i := 2) (off := 2) Tryd.underlying50 rfl Tryd.sizeOf35 rfl rfl rfl) ?_
      refine wl_r (o_loadbg Tryd.isAgg35 rfl f1 (by rfl)) ?_
      refine wl_call rfl (C_pKeepNil _) ?_
      rintro v38 w38 ⟨rfl, b38⟩
      have s38 := b38.size
      replace hw := hw.trans (b38.mono hw.size)
      replace f17 := f17.u b38
      replace f1 := f1.u b38
      refine wl_p (fun _ => o_move rfl) ?_
      refine wl_p (fun _ => o_ext20 rfl) ?_
      refine wl_p (fun _ => o_ext21 rfl) ?_
      refine wl_p (fun _ => o_assign rfl) ?_
      refine wl_p (fun _ => o_assign rfl) ?_
      refine wl_nil ?_
      refine rk_seq ?_
      refine rk_draw (id := 9) (none) [0, 1, 0, 4, 8, 18, 32, 64, 64, 255, 1023] [0, 1, 0, 4, 12, 31, 63, 127, 127, 255, 1023] 48 16 [(.p, 0), (.s, 1), (.p, 2), (.r, 3), (.c, 4), (.l, 5), (.p, 6), (.p, 7), (.p, 8), (.p, 9), (.p, 10)] (by kernel_rfl) (by kernel_rfl) (by kernel_rfl) (by kernel_rfl) (by kernel_rfl) ?_
      replace hw := hw.drew
      replace f1 := f1.d
      replace f17 := f17.d
      refine wl_p (fun _ => o_faddr (s := 50) (i := 1) (off := 1) Tryd.underlying50 rfl Tryd.sizeOf3 rfl rfl rfl) ?_
      refine wl_s (fun _ hk => (o_loadbg Tryd.isAgg3 rfl (f1.u (below_of_grown_none hk)) (by rfl))) ?_
      refine wl_p (fun _ => o_faddr (s := 50) (i := 3) (off := 3) Tryd.underlying50 rfl Tryd.sizeOf22 rfl rfl rfl) ?_
      refine wl_r (o_loadbg Tryd.isAgg22 rfl f1 (by rfl)) ?_
      refine wl_call rfl (C_OwnP _ (hB.u hw) rfl (by omega)) ?_ (hq := .inr fun _ _ h => grown_of_below h.choose_spec.choose_spec.2.2 _)
      rintro v46 w46 ⟨A46, ⟨c46, ⟨rfl, ⟨f46, b46⟩⟩⟩⟩
      simp only [drew_size] at f46
      simp only [drew_size] at b46
      have qf46 := f46.cap
      have s46 := b46.size
      simp only [drew_size] at s46
      replace hw := hw.trans (b46.mono hw.size)
      replace f17 := f17.u b46
      replace f1 := f1.u b46
      refine wl_call rfl (C_pBytesOk _ f46.to_Rd rfl hr (by omega) rfl (by omega)) ?_
      rintro v47 w47 ⟨A47, ⟨c47, ⟨rfl, ⟨f47, ⟨e47, ⟨i47, ⟨i47_1, b47⟩⟩⟩⟩⟩⟩⟩
      have s47 := b47.size
      replace hw := hw.trans (b47.mono hw.size)
      replace f1 := f1.u b47
      replace f17 := f17.u b47
      replace f46 := f46.u b47
      refine wl_p (fun _ => o_move rfl) ?_
      refine wl_p (fun _ => o_ext20 rfl) ?_
      refine wl_p (fun _ => o_ext21 rfl) ?_
      refine wl_p (fun _ => o_assign rfl) ?_
      refine wl_p (fun _ => o_assign rfl) ?_
      refine wl_nild ?_
      refine rk_seq ?_
      refine rk_region ?_
      refine wl_p (fun _ => o_faddr (s := 50) (i := 1) (off := 1) Tryd.underlying50 rfl Tryd.sizeOf3 rfl rfl rfl) ?_
      refine wl_r (o_loadbg Tryd.isAgg3 rfl f1 (by rfl)) ?_
      refine wl_p (fun _ => o_faddr (s := 50) (i := 3) (off := 3) Tryd.underlying50 rfl Tryd.sizeOf22 rfl rfl rfl) ?_
      refine wl_r (o_loadbg Tryd.isAgg22 rfl f1 (by rfl)) ?_
      refine wl_call rfl (C_rBytesOk _ (hB.u hw) rfl hr (by omega) rfl (by omega)) ?_
      rintro v55 w55 ⟨A55, ⟨c55, ⟨rfl, ⟨f55, ⟨e55, b55⟩⟩⟩⟩⟩
      have qf55 := f55.cap
      have s55 := b55.size
      replace hw := hw.trans (b55.mono hw.size)
      replace f46 := f46.u b55
      replace f17 := f17.u b55
      replace f1 := f1.u b55
      replace f47 := f47.u b55
      refine wl_p (fun _ => o_move rfl) ?_
      refine wl_p (fun _ => o_ext20 rfl) ?_
      refine wl_p (fun _ => o_ext21 rfl) ?_
      refine wl_p (fun _ => o_assign rfl) ?_
      refine wl_p (fun _ => o_assign rfl) ?_
      refine wl_nil ?_
      refine rk_seq ?_
      refine rk_region ?_
      refine wl_p (fun _ => o_move rfl) ?_
      refine wl_p (fun _ => o_eq rfl rfl) ?_
      refine wl_p (fun _ => o_move rfl) ?_
      refine wl_p (fun _ => o_move rfl) ?_
      refine wl_p (fun _ => o_eq rfl rfl) ?_
      refine wl_p (fun _ => o_pick_t rfl rfl) ?_
      refine wl_p (fun _ => o_move rfl) ?_
      refine wl_p (fun _ => o_move rfl) ?_
      refine wl_p (fun _ => o_eq rfl rfl) ?_
      refine wl_p (fun _ => o_pick_t rfl rfl) ?_
      refine wl_p (fun _ => o_move rfl) ?_
      refine wl_p (fun _ => o_move rfl) ?_
      refine wl_p (fun _ => o_faddr (s := 50) (i := 1) (off := 1) Tryd.underlying50 rfl Tryd.sizeOf3 rfl rfl rfl) ?_
      refine wl_r (o_loadbg Tryd.isAgg3 rfl f1 (by rfl)) ?_
      refine wl_call rfl (C_pFreeNil _) ?_
      rintro v72 w72 ⟨rfl, b72⟩
      have s72 := b72.size
      replace hw := hw.trans (b72.mono hw.size)
      replace f47 := f47.u b72
      replace f1 := f1.u b72
      replace f17 := f17.u b72
      replace f46 := f46.u b72
      replace f55 := f55.u b72
      refine wl_p (fun _ => o_eq rfl rfl) ?_
      refine wl_p (fun _ => o_pick_t rfl rfl) ?_
      refine wl_p (fun _ => o_move rfl) ?_
      refine wl_p (fun _ => o_move rfl) ?_
      refine wl_call rfl (C_pSyncNil _) ?_
      rintro v77 w77 ⟨rfl, b77⟩
      have s77 := b77.size
      replace hw := hw.trans (b77.mono hw.size)
      replace f55 := f55.u b77
      replace f46 := f46.u b77
      replace f17 := f17.u b77
      replace f1 := f1.u b77
      replace f47 := f47.u b77
      refine wl_p (fun _ => o_eq rfl rfl) ?_
      refine wl_p (fun _ => o_pick_t rfl rfl) ?_
      refine wl_p (fun _ => o_move rfl) ?_
      refine wl_p (fun _ => o_move rfl) ?_
      refine wl_call rfl (C_pUsedNil _) ?_
      rintro v82 w82 ⟨rfl, b82⟩
      have s82 := b82.size
      replace hw := hw.trans (b82.mono hw.size)
      replace f47 := f47.u b82
      replace f1 := f1.u b82
      replace f17 := f17.u b82
      replace f46 := f46.u b82
      replace f55 := f55.u b82
      refine wl_p (fun _ => o_len (t := 35) Tryd.underlying35 rfl) ?_
      refine wl_p (fun _ => o_eq rfl rfl) ?_
      refine wl_p (fun _ => o_pick_t rfl rfl) ?_
      refine wl_p (fun _ => o_move rfl) ?_
      refine wl_p (fun _ => o_move rfl) ?_
      refine wl_call rfl (C_pSpareNil _) ?_
      rintro v88 w88 ⟨rfl, b88⟩
      have s88 := b88.size
      replace hw := hw.trans (b88.mono hw.size)
      replace f55 := f55.u b88
      replace f46 := f46.u b88
      replace f17 := f17.u b88
      replace f1 := f1.u b88
      replace f47 := f47.u b88
      refine wl_p (fun _ => o_eq rfl rfl) ?_
      refine wl_p (fun _ => o_pick_t rfl rfl) ?_
      refine wl_p (fun _ => o_move rfl) ?_
      refine wl_p (fun _ => o_move rfl) ?_
      refine wl_r (o_strU Tryd.underlying22 Tryd.underlying5 Tryd.underlying9 rfl f47.to_Rd (Below.refl _ _) (by omega)) ?_
      refine wl_p (fun _ => o_move rfl) ?_
      refine wl_r (o_strU Tryd.underlying22 Tryd.underlying5 Tryd.underlying9 rfl f55.to_Rd (Below.refl _ _) rfl) ?_
      refine wl_p (fun _ => o_seq rfl rfl) ?_
      refine wl_p (fun _ => o_pick_t rfl rfl) ?_
      refine wl_p (fun _ => o_move rfl) ?_
      refine wl_know 98 true rfl (by simp) ?_
      refine wl_p (fun _ => o_move rfl) ?_
      refine wl_p (fun _ => o_move rfl) ?_
      refine wl_p (fun _ => o_eq rfl rfl) ?_
      refine wl_p (fun _ => o_pick_t rfl rfl) ?_
      refine wl_p (fun _ => o_assign rfl) ?_
      refine wl_nil ?_
      refine ret1 rfl rfl ?_
      exact ⟨rfl, hw⟩
    · refine rk_false rfl ?_
      refine rk_skip ?_
      refine rk_seq ?_
      refine rk_region ?_
      refine wl_p (fun _ => o_assign rfl) ?_
      refine wl_nil ?_
      refine rk_seq ?_
      refine rk_region ?_
      refine wl_p (fun _ => o_move rfl) ?_
      refine wl_p (fun _ => o_faddr (s := 50) (i := 3) (off := 3) Tryd.underlying50 rfl Tryd.sizeOf22 rfl rfl rfl) ?_
      refine wl_r (o_loadbg Tryd.isAgg22 rfl f1 (by rfl)) ?_
      refine wl_call rfl (C_pNewNil _) ?_
      rintro v24 w24 ⟨rfl, b24⟩
      have s24 := b24.size
      replace hw := hw.trans (b24.mono hw.size)
      replace f17 := f17.u b24
      replace f1 := f1.u b24
      refine wl_p (fun _ => o_move rfl) ?_
      refine wl_p (fun _ => o_ext20 rfl) ?_
      refine wl_p (fun _ => o_ext21 rfl) ?_
      refine wl_p (fun _ => o_assign rfl) ?_
      refine wl_p (fun _ => o_assign rfl) ?_
      refine wl_nil ?_
      refine rk_seq ?_
      refine rk_region ?_
      refine wl_p (fun _ => o_move rfl) ?_
      refine wl_p (fun _ => o_faddr (s := 50) (i := 1) (off := 1) Tryd.underlying50 rfl Tryd.sizeOf3 rfl rfl rfl) ?_
      refine wl_r (o_loadbg Tryd.isAgg3 rfl f1 (by rfl)) ?_
      refine wl_call rfl (C_pReadNil _) ?_
      rintro v31 w31 ⟨rfl, b31⟩
      have s31 := b31.size
      replace hw := hw.trans (b31.mono hw.size)
      replace f1 := f1.u b31
      replace f17 := f17.u b31
      refine wl_p (fun _ => o_move rfl) ?_
      refine wl_p (fun _ => o_ext20 rfl) ?_
      refine wl_p (fun _ => o_ext21 rfl) ?_
      refine wl_p (fun _ => o_assign rfl) ?_
      refine wl_p (fun _ => o_assign rfl) ?_
      refine wl_nil ?_
      refine rk_seq ?_
      refine rk_region ?_
      refine wl_p (fun _ => o_move rfl) ?_
      refine wl_p (fun _ => o_faddr (s := 50) (i := 2) (off := 2) Tryd.underlying50 rfl Tryd.sizeOf35 rfl rfl rfl) ?_
      refine wl_r (o_loadbg Tryd.isAgg35 rfl f1 (by rfl)) ?_
      refine wl_call rfl (C_pKeepNil _) ?_
      rintro v38 w38 ⟨rfl, b38⟩
      have s38 := b38.size
      replace hw := hw.trans (b38.mono hw.size)
      replace f17 := f17.u b38
      replace f1 := f1.u b38
      refine wl_p (fun _ => o_move rfl) ?_
      refine wl_p (fun _ => o_ext20 rfl) ?_
      refine wl_p (fun _ => o_ext21 rfl) ?_
      refine wl_p (fun _ => o_assign rfl) ?_
      refine wl_p (fun _ => o_assign rfl) ?_
      refine wl_nil ?_
      refine rk_seq ?_
      refine rk_draw (id := 9) (none) [0, 1, 0, 4, 8, 18, 32, 64, 64, 255, 1023] [0, 1, 0, 4, 12, 31, 63, 127, 127, 255, 1023] 48 16 [(.p, 0), (.s, 1), (.p, 2), (.r, 3), (.c, 4), (.l, 5), (.p, 6), (.p, 7), (.p, 8), (.p, 9), (.p, 10)] (by kernel_rfl) (by kernel_rfl) (by kernel_rfl) (by kernel_rfl) (by kernel_rfl) ?_
      replace hw := hw.drew
      replace f1 := f1.d
      replace f17 := f17.d
      refine wl_p (fun _ => o_faddr (s := 50) (i := 1) (off := 1) Tryd.underlying50 rfl Tryd.sizeOf3 rfl rfl rfl) ?_
      refine wl_s (fun _ hk => (o_loadbg Tryd.isAgg3 rfl (f1.u (below_of_grown_none hk)) (by rfl))) ?_
      refine wl_p (fun _ => o_faddr (s := 50) (i := 3) (off := 3) Tryd.underlying50 rfl Tryd.sizeOf22 rfl rfl rfl) ?_
      refine wl_r (o_loadbg Tryd.isAgg22 rfl f1 (by rfl)) ?_
      refine wl_call rfl (C_OwnP _ (hB.u hw) rfl (by omega)) ?_ (hq := .inr fun _ _ h => grown_of_below h.choose_spec.choose_spec.2.2 _)
      rintro v46 w46 ⟨A46, ⟨c46, ⟨rfl, ⟨f46, b46⟩⟩⟩⟩
      simp only [drew_size] at f46
      simp only [drew_size] at b46
      have qf46 := f46.cap
      have s46 := b46.size
      simp only [drew_size] at s46
      replace hw := hw.trans (b46.mono hw.size)
      replace f17 := f17.u b46
      replace f1 := f1.u b46
      refine wl_call rfl (C_pBytesBad _ (by omega)) ?_
      rintro v47 w47 ⟨rfl, b47⟩
      have s47 := b47.size
      replace hw := hw.trans (b47.mono hw.size)
      replace f1 := f1.u b47
      replace f17 := f17.u b47
      replace f46 := f46.u b47
      refine wl_p (fun _ => o_move rfl) ?_
      refine wl_p (fun _ => o_ext20 rfl) ?_
      refine wl_p (fun _ => o_ext21 rfl) ?_
      refine wl_p (fun _ => o_assign rfl) ?_
      refine wl_p (fun _ => o_assign rfl) ?_
      refine wl_nild ?_
      refine rk_seq ?_
      refine rk_region ?_
      refine wl_p (fun _ => o_faddr (s := 50) (i := 1) (off := 1) Tryd.underlying50 rfl Tryd.sizeOf3 rfl rfl rfl) ?_
      refine wl_r (o_loadbg Tryd.isAgg3 rfl f1 (by rfl)) ?_
      refine wl_p (fun _ => o_faddr (s := 50) (i := 3) (off := 3) Tryd.underlying50 rfl Tryd.sizeOf22 rfl rfl rfl) ?_
      refine wl_r (o_loadbg Tryd.isAgg22 rfl f1 (by rfl)) ?_
      refine wl_call rfl (C_rBytesBad _ (by omega)) ?_
      rintro v55 w55 ⟨rfl, b55⟩
      have s55 := b55.size
      replace hw := hw.trans (b55.mono hw.size)
      replace f46 := f46.u b55
      replace f17 := f17.u b55
      replace f1 := f1.u b55
      refine wl_p (fun _ => o_move rfl) ?_
      refine wl_p (fun _ => o_ext20 rfl) ?_
      refine wl_p (fun _ => o_ext21 rfl) ?_
      refine wl_p (fun _ => o_assign rfl) ?_
      refine wl_p (fun _ => o_assign rfl) ?_
      refine wl_nil ?_
      refine rk_seq ?_
      refine rk_region ?_
      refine wl_p (fun _ => o_move rfl) ?_
      refine wl_p (fun _ => o_eq rfl rfl) ?_
      refine wl_p (fun _ => o_move rfl) ?_
      refine wl_p (fun _ => o_move rfl) ?_
      refine wl_p (fun _ => o_eq rfl rfl) ?_
      refine wl_p (fun _ => o_pick_t rfl rfl) ?_
      refine wl_p (fun _ => o_move rfl) ?_
      refine wl_p (fun _ => o_move rfl) ?_
      refine wl_p (fun _ => o_eq rfl rfl) ?_
      refine wl_p (fun _ => o_pick_t rfl rfl) ?_
      refine wl_p (fun _ => o_move rfl) ?_
      refine wl_p (fun _ => o_move rfl) ?_
      refine wl_p (fun _ => o_faddr (s := 50) (i := 1) (off := 1) Tryd.underlying50 rfl Tryd.sizeOf3 rfl rfl rfl) ?_
      refine wl_r (o_loadbg Tryd.isAgg3 rfl f1 (by rfl)) ?_
      refine wl_call rfl (C_pFreeNil _) ?_
      rintro v72 w72 ⟨rfl, b72⟩
      have s72 := b72.size
      replace hw := hw.trans (b72.mono hw.size)
      replace f1 := f1.u b72
      replace f17 := f17.u b72
      replace f46 := f46.u b72
      refine wl_p (fun _ => o_eq rfl rfl) ?_
      refine wl_p (fun _ => o_pick_t rfl rfl) ?_
      refine wl_p (fun _ => o_move rfl) ?_
      refine wl_p (fun _ => o_move rfl) ?_
      refine wl_call rfl (C_pSyncNil _) ?_
      rintro v77 w77 ⟨rfl, b77⟩
      have s77 := b77.size
      replace hw := hw.trans (b77.mono hw.size)
      replace f46 := f46.u b77
      replace f17 := f17.u b77
      replace f1 := f1.u b77
      refine wl_p (fun _ => o_eq rfl rfl) ?_
      refine wl_p (fun _ => o_pick_t rfl rfl) ?_
      refine wl_p (fun _ => o_move rfl) ?_
      refine wl_p (fun _ => o_move rfl) ?_
      refine wl_call rfl (C_pUsedNil _) ?_
      rintro v82 w82 ⟨rfl, b82⟩
      have s82 := b82.size
      replace hw := hw.trans (b82.mono hw.size)
      replace f1 := f1.u b82
      replace f17 := f17.u b82
      replace f46 := f46.u b82
      refine wl_p (fun _ => o_len (t := 35) Tryd.underlying35 rfl) ?_
      refine wl_p (fun _ => o_eq rfl rfl) ?_
      refine wl_p (fun _ => o_pick_t rfl rfl) ?_
      refine wl_p (fun _ => o_move rfl) ?_
      refine wl_p (fun _ => o_move rfl) ?_
      refine wl_call rfl (C_pSpareNil _) ?_
      rintro v88 w88 ⟨rfl, b88⟩
      have s88 := b88.size
      replace hw := hw.trans (b88.mono hw.size)
      replace f46 := f46.u b88
      replace f17 := f17.u b88
      replace f1 := f1.u b88
      refine wl_p (fun _ => o_eq rfl rfl) ?_
      refine wl_p (fun _ => o_pick_t rfl rfl) ?_
      refine wl_p (fun _ => o_move rfl) ?_
      refine wl_p (fun _ => o_move rfl) ?_
      refine wl_r (o_strU Tryd.underlying22 Tryd.underlying5 Tryd.underlying9 rfl (Rd.nil_) hw (by rfl)) ?_
      refine wl_p (fun _ => o_move rfl) ?_
      refine wl_r (o_strU Tryd.underlying22 Tryd.underlying5 Tryd.underlying9 rfl (Rd.nil_) hw (by rfl)) ?_
      refine wl_p (fun _ => o_seq rfl rfl) ?_
      refine wl_p (fun _ => o_pick_t rfl rfl) ?_
      refine wl_p (fun _ => o_move rfl) ?_
      refine wl_p (fun _ => o_move rfl) ?_
      refine wl_p (fun _ => o_move rfl) ?_
      refine wl_p (fun _ => o_eq rfl rfl) ?_
      refine wl_p (fun _ => o_pick_t rfl rfl) ?_
      refine wl_p (fun _ => o_assign rfl) ?_
      refine wl_nil ?_
      refine ret1 rfl rfl ?_
      exact ⟨rfl, hw⟩
set_option maxRecDepth 100000 in
theorem C_PagesNames (w : World) (hT : TabAt0 w 0) :
    CallsR Tryd.prog 4 [] w fun v w' => v = .bool true ∧ Below w.heap.size w w' := by
  obtain ⟨Z, hZ⟩ : ∃ Z : List Sec, List.replicate 5 z256 = Z := ⟨_, rfl⟩
  obtain ⟨Q, hQ⟩ : ∃ Q : List (Option Sec), List.replicate 5 none = Q := ⟨_, rfl⟩
  have hZl : Z.length = 5 := by rw [← hZ, List.length_replicate]
  have hQl : Q.length = 5 := by rw [← hQ, List.length_replicate]
  have hm : Z.length / 2 = 2 := by rw [hZl]
  have ho2 : openOk 2 [2] = false := rfl
  have ho1 : openOk 2 [1] = true := rfl
  have hU : markAll (List.replicate 2 false) [1] = [false, true] := rfl
  obtain ⟨X0, hX0⟩ : ∃ X, cur Z Q = X := ⟨_, rfl⟩
  have hXz : X0 = List.replicate 5 z256 := by rw [← hX0, ← hQ, cur_none, ← hZ]
  have hR1 : readP X0 [false, true] 1 = ([], 4) := by rw [hXz]; exact ev_read1
  obtain ⟨b501, hb501⟩ : ∃ b : By, List.replicate 501 0 = b := ⟨_, rfl⟩
  have hb501l : b501.length = 501 := by rw [← hb501, List.length_replicate]
  have hn1 : newP Z Q [false, true] b501 = ((0, 2), Q, [false, true]) := newP_bad (by omega)
  have hn2 : newP Z Q [false, true] [] = ((0, 0), newC Z Q 0 (pageL 0 []), [true, true]) := newP_ok (by decide) (by decide) (by decide)
  obtain ⟨C1, hC1⟩ : ∃ C, newC Z Q 0 (pageL 0 []) = C := ⟨_, rfl⟩
  rw [hC1] at hn2
  have hn3 : newP Z C1 [true, true] [] = ((0, 7), C1, [true, true]) := newP_full (by decide) (by decide)
  have hk1 : [0].all (usdAt [true, true]) = true := rfl
  have hk2 : [1].all (usdAt [true, false]) = false := rfl
  have hM : markAll (List.replicate 2 false) [0] = [true, false] := rfl
  have hs2 : (usd [true, true] [true, true].length).length = 2 := by decide
  have hs1 : (usd [true, false] [true, false].length).length = 1 := by decide
  have hI : usdZ [true, false] [true, false].length = [0] := by decide
  obtain ⟨p7, hp7⟩ : ∃ p, pageL 7 [120] = p := ⟨_, rfl⟩
  have hp7l : p7.length = 512 := by rw [← hp7]; exact pageL_len 7 (by decide)
  have hp712 : (p7[12]'(by omega)).toNat = 120 := by
    have h : (p7.drop 12)[0]'(by rw [List.length_drop]; omega) = p7[12]'(by omega) := by rw [List.getElem_drop]
    rw [← h]
    subst hp7
    simp only [pageL_drop]
    rfl
  have hgd : 0 < w.heap.size := hT.lt
  refine callsR Tryd.func4 rfl rfl (by kernel_rfl) rfl ?_
  have hw := Below.refl w.heap.size w
  refine rk_seq ?_
  refine rk_region ?_
  refine wl_p (fun _ => o_assign rfl) ?_
  refine wl_nil ?_
  refine rk_seq ?_
  refine rk_region ?_
  refine wl_call rfl (C_dNewOk _ (by omega) hZ hQ (by omega) (by omega)) ?_
  rintro v28 w28 ⟨g28, ⟨rfl, ⟨f28, b28⟩⟩⟩
  have s28 := b28.size
  replace hw := hw.trans (b28.mono hw.size)
  refine wl_p (fun _ => o_move rfl) ?_
  refine wl_p (fun _ => o_ext20 rfl) ?_
  refine wl_p (fun _ => o_ext21 rfl) ?_
  refine wl_p (fun _ => o_assign rfl) ?_
  refine wl_p (fun _ => o_assign rfl) ?_
  refine wl_nil ?_
  refine rk_seq ?_
  refine rk_region ?_
  refine wl_call rfl (C_pOpenNil _) ?_
  rintro v32 w32 ⟨rfl, b32⟩
  have s32 := b32.size
  replace hw := hw.trans (b32.mono hw.size)
  replace f28 := f28.u b32
  refine wl_p (fun _ => o_move rfl) ?_
  refine wl_p (fun _ => o_ext20 rfl) ?_
  refine wl_p (fun _ => o_ext21 rfl) ?_
  refine wl_p (fun _ => o_assign rfl) ?_
  refine wl_p (fun _ => o_assign rfl) ?_
  refine wl_nil ?_
  refine rk_seq ?_
  refine rk_region ?_
  refine wl_p (fun _ => o_move rfl) ?_
  refine wl_litZH [2] (by rfl) rfl rfl (by rfl) (by rfl) (by rfl) ?_
  rintro A37 w37 f37 b37
  have qf37 := f37.cap
  have s37 := b37.size
  replace hw := hw.trans (b37.mono hw.size)
  replace f28 := f28.u b37
  refine wl_call rfl (C_pOpenBad _ f28 f37.to_RZ (by rfl) (by omega) hm ho2) ?_
  rintro v38 w38 ⟨rfl, b38⟩
  have s38 := b38.size
  replace hw := hw.trans (b38.mono hw.size)
  replace f28 := f28.u b38
  replace f37 := f37.u b38
  refine wl_p (fun _ => o_move rfl) ?_
  refine wl_p (fun _ => o_ext20 rfl) ?_
  refine wl_p (fun _ => o_ext21 rfl) ?_
  refine wl_p (fun _ => o_assign rfl) ?_
  refine wl_p (fun _ => o_assign rfl) ?_
  refine wl_nil ?_
  refine rk_seq ?_
  refine rk_region ?_
  refine wl_p (fun _ => o_move rfl) ?_
  refine wl_litZH [1] (by rfl) rfl rfl (by rfl) (by rfl) (by rfl) ?_
  rintro A43 w43 f43 b43
  have qf43 := f43.cap
  have s43 := b43.size
  replace hw := hw.trans (b43.mono hw.size)
  replace f37 := f37.u b43
  replace f28 := f28.u b43
  refine wl_call rfl (C_pOpenOk _ f28 f43.to_RZ (by rfl) (by omega) hm ho1 hU) ?_
  rintro v44 w44 ⟨g44, ⟨rfl, ⟨f44, ⟨i44, ⟨i44_1, b44⟩⟩⟩⟩⟩
  have s44 := b44.size
  replace hw := hw.trans (b44.mono hw.size)
  replace f28 := f28.u b44
  replace f37 := f37.u b44
  replace f43 := f43.u b44
  refine wl_p (fun _ => o_move rfl) ?_
  refine wl_p (fun _ => o_ext20 rfl) ?_
  refine wl_p (fun _ => o_ext21 rfl) ?_
  refine wl_p (fun _ => o_assign rfl) ?_
  refine wl_p (fun _ => o_assign rfl) ?_
  refine wl_nil ?_
  refine rk_seq ?_
  refine rk_seq ?_
  refine rk_region ?_
  refine wl_p (fun _ => o_move rfl) ?_
  refine wl_p (fun _ => o_ne rfl rfl) ?_
  refine wl_nil ?_
  refine rk_false rfl ?_
  refine rk_skip ?_
  refine rk_seq ?_
  refine rk_region ?_
  refine wl_p (fun _ => o_move rfl) ?_
  refine wl_call rfl (C_pRead _ f44 f28 hX0 hR1 (by simp; omega) (by rfl)) ?_
  rintro v51 w51 ⟨A51, ⟨c51, ⟨rfl, ⟨f51, ⟨i51, b51⟩⟩⟩⟩⟩
  dsimp only at f51
  dsimp only at i51
  dsimp only
  have s51 := b51.size
  replace hw := hw.trans (b51.mono hw.size)
  replace f43 := f43.u b51
  replace f37 := f37.u b51
  replace f28 := f28.u b51
  replace f44 := f44.u b51
  refine wl_p (fun _ => o_move rfl) ?_
  refine wl_p (fun _ => o_ext20 rfl) ?_
  refine wl_p (fun _ => o_ext21 rfl) ?_
  refine wl_p (fun _ => o_assign rfl) ?_
  refine wl_p (fun _ => o_assign rfl) ?_
  refine wl_nil ?_
  refine rk_seq ?_
  refine rk_region ?_
  refine wl_p (fun _ => o_move rfl) ?_
  refine wl_mkBz (501) rfl rfl (by omega) (by rfl) (by omega) hb501 ?_
  rintro A56 w56 f56 b56
  have qf56 := f56.cap
  have s56 := b56.size
  replace hw := hw.trans (b56.mono hw.size)
  replace f44 := f44.u b56
  replace f28 := f28.u b56
  replace f37 := f37.u b56
  replace f43 := f43.u b56
  replace f51 := f51.u b56
  refine wl_call rfl (C_pNew _ (hT.u hw) f44 f28 f56.to_Rd hn1 (by omega) (by omega) (by simp; omega) (by omega) (by omega) (by omega)) ?_
  rintro v57 w57 ⟨rfl, ⟨f57, ⟨f57_1, ⟨w157, ⟨g57, ⟨g57_1, ⟨row57, g57_2⟩⟩⟩⟩⟩⟩⟩
  dsimp only at f57
  dsimp only at f57_1
  dsimp only
  have s57 := g57.size
  replace hw := hw.trans (g57.below hw.size (by omega))
  replace f51 := f51.c g57 (by omega)
  replace f43 := f43.c g57 (by omega)
  replace f37 := f37.c g57 (by omega)
  replace f44 := f44.c g57 (by omega)
  replace f56 := f56.c g57 (by omega)
  clear f28
  have s57g57_1 := g57_1.size
  replace hw := hw.trans (g57_1.below hw.size (by omega))
  replace f56 := f56.c g57_1 (by omega)
  replace f37 := f37.c g57_1 (by omega)
  replace f43 := f43.c g57_1 (by omega)
  replace f51 := f51.c g57_1 (by omega)
  clear f44
  refine wl_p (fun _ => o_move rfl) ?_
  refine wl_p (fun _ => o_ext20 rfl) ?_
  refine wl_p (fun _ => o_ext21 rfl) ?_
  refine wl_p (fun _ => o_assign rfl) ?_
  refine wl_p (fun _ => o_assign rfl) ?_
  refine wl_nil ?_
  refine rk_seq ?_
  refine rk_region ?_
  refine wl_p (fun _ => o_move rfl) ?_
  refine wl_call rfl (C_pNew _ (hT.u hw) f57 f57_1 (Rd.nil_) hn2 (by rfl) (by omega) (by simp; omega) (by omega) (by omega) (by omega)) ?_
  rintro v62 w62 ⟨rfl, ⟨f62, ⟨f62_1, ⟨w162, ⟨g62, ⟨g62_1, ⟨row62, g62_2⟩⟩⟩⟩⟩⟩⟩
  dsimp only at f62
  dsimp only at f62_1
  dsimp only
  have s62 := g62.size
  replace hw := hw.trans (g62.below hw.size (by omega))
  replace f51 := f51.c g62 (by omega)
  replace f43 := f43.c g62 (by omega)
  replace f37 := f37.c g62 (by omega)
  replace f56 := f56.c g62 (by omega)
  replace f57 := f57.c g62 (by omega)
  clear f57_1
  have s62g62_1 := g62_1.size
  replace hw := hw.trans (g62_1.below hw.size (by omega))
  replace f56 := f56.c g62_1 (by omega)
  replace f37 := f37.c g62_1 (by omega)
  replace f43 := f43.c g62_1 (by omega)
  replace f51 := f51.c g62_1 (by omega)
  clear f57
  refine wl_p (fun _ => o_move rfl) ?_
  refine wl_p (fun _ => o_ext20 rfl) ?_
  refine wl_p (fun _ => o_ext21 rfl) ?_
  refine wl_p (fun _ => o_assign rfl) ?_
  refine wl_p (fun _ => o_assign rfl) ?_
  refine wl_nil ?_
  refine rk_seq ?_
  refine rk_region ?_
  refine wl_p (fun _ => o_move rfl) ?_
  refine wl_call rfl (C_pNew _ (hT.u hw) f62 f62_1 (Rd.nil_) hn3 (by rfl) (by omega) (by simp; omega) (by omega) (by omega) (by omega)) ?_
  rintro v67 w67 ⟨rfl, ⟨f67, ⟨f67_1, ⟨w167, ⟨g67, ⟨g67_1, ⟨row67, g67_2⟩⟩⟩⟩⟩⟩⟩
  dsimp only at f67
  dsimp only at f67_1
  dsimp only
  have s67 := g67.size
  replace hw := hw.trans (g67.below hw.size (by omega))
  replace f51 := f51.c g67 (by omega)
  replace f43 := f43.c g67 (by omega)
  replace f37 := f37.c g67 (by omega)
  replace f56 := f56.c g67 (by omega)
  replace f62 := f62.c g67 (by omega)
  clear f62_1
  have s67g67_1 := g67_1.size
  replace hw := hw.trans (g67_1.below hw.size (by omega))
  replace f56 := f56.c g67_1 (by omega)
  replace f37 := f37.c g67_1 (by omega)
  replace f43 := f43.c g67_1 (by omega)
  replace f51 := f51.c g67_1 (by omega)
  clear f62
  refine wl_p (fun _ => o_move rfl) ?_
  refine wl_p (fun _ => o_ext20 rfl) ?_
  refine wl_p (fun _ => o_ext21 rfl) ?_
  refine wl_p (fun _ => o_assign rfl) ?_
  refine wl_p (fun _ => o_assign rfl) ?_
  refine wl_nil ?_
  refine rk_seq ?_
  refine rk_region ?_
  refine wl_p (fun _ => o_move rfl) ?_
  refine wl_litZH [0] (by rfl) rfl rfl (by rfl) (by rfl) (by rfl) ?_
  rintro A72 w72 f72 b72
  have qf72 := f72.cap
  have s72 := b72.size
  replace hw := hw.trans (b72.mono hw.size)
  replace f51 := f51.u b72
  replace f43 := f43.u b72
  replace f37 := f37.u b72
  replace f56 := f56.u b72
  replace f67_1 := f67_1.u b72
  replace f67 := f67.u b72
  refine wl_call rfl (C_pKeepOk _ f67 f72.to_RZ (by rfl) hs2 hs1 (by rfl) (by omega) hk1 (by decide)) ?_
  rintro v73 w73 ⟨rfl, ⟨f73, ⟨w173, ⟨b73, ⟨g73, g73_1⟩⟩⟩⟩⟩
  have s73 := b73.size
  replace hw := hw.trans (b73.mono hw.size)
  replace f67 := f67.u b73
  replace f67_1 := f67_1.u b73
  replace f56 := f56.u b73
  replace f37 := f37.u b73
  replace f43 := f43.u b73
  replace f51 := f51.u b73
  replace f72 := f72.u b73
  have s73g73 := g73.size
  replace hw := hw.trans (g73.below hw.size (by omega))
  replace f72 := f72.c g73 (by omega)
  replace f51 := f51.c g73 (by omega)
  replace f43 := f43.c g73 (by omega)
  replace f37 := f37.c g73 (by omega)
  replace f56 := f56.c g73 (by omega)
  replace f67_1 := f67_1.c g73 (by omega)
  clear f67
  refine wl_p (fun _ => o_move rfl) ?_
  refine wl_p (fun _ => o_ext20 rfl) ?_
  refine wl_p (fun _ => o_ext21 rfl) ?_
  refine wl_p (fun _ => o_assign rfl) ?_
  refine wl_p (fun _ => o_assign rfl) ?_
  refine wl_nil ?_
  refine rk_seq ?_
  refine rk_region ?_
  refine wl_p (fun _ => o_move rfl) ?_
  refine wl_litZH [1] (by rfl) rfl rfl (by rfl) (by rfl) (by rfl) ?_
  rintro A78 w78 f78 b78
  have qf78 := f78.cap
  have s78 := b78.size
  replace hw := hw.trans (b78.mono hw.size)
  replace f67_1 := f67_1.u b78
  replace f56 := f56.u b78
  replace f37 := f37.u b78
  replace f43 := f43.u b78
  replace f51 := f51.u b78
  replace f72 := f72.u b78
  replace f73 := f73.u b78
  refine wl_call rfl (C_pKeepNo _ f73 f78.to_RZ (by rfl) (by omega) hk2 (by decide)) ?_
  rintro v79 w79 ⟨rfl, b79⟩
  have s79 := b79.size
  replace hw := hw.trans (b79.mono hw.size)
  replace f73 := f73.u b79
  replace f72 := f72.u b79
  replace f51 := f51.u b79
  replace f43 := f43.u b79
  replace f37 := f37.u b79
  replace f56 := f56.u b79
  replace f67_1 := f67_1.u b79
  replace f78 := f78.u b79
  refine wl_p (fun _ => o_move rfl) ?_
  refine wl_p (fun _ => o_ext20 rfl) ?_
  refine wl_p (fun _ => o_ext21 rfl) ?_
  refine wl_p (fun _ => o_assign rfl) ?_
  refine wl_p (fun _ => o_assign rfl) ?_
  refine wl_nil ?_
  refine rk_seq ?_
  refine rk_region ?_
  refine wl_litC [120] Tryd.u8 Tryd.sizeOf5 Tryd.zeroValue5 (by rfl) rfl rfl (by rfl) (by rfl) (by rfl) ?_
  rintro A83 w83 f83 b83
  have s83 := b83.size
  replace hw := hw.trans (b83.mono hw.size)
  replace f78 := f78.u b83
  replace f67_1 := f67_1.u b83
  replace f56 := f56.u b83
  replace f37 := f37.u b83
  replace f43 := f43.u b83
  replace f51 := f51.u b83
  replace f72 := f72.u b83
  replace f73 := f73.u b83
  refine wl_call rfl (C_pBytesOk _ f83.to_Rd (by omega) hp7 (by omega) (by rfl) (by simp)) ?_
  rintro v85 w85 ⟨A85, ⟨c85, ⟨rfl, ⟨f85, ⟨e85, ⟨i85, ⟨i85_1, b85⟩⟩⟩⟩⟩⟩⟩
  have s85 := b85.size
  replace hw := hw.trans (b85.mono hw.size)
  replace f73 := f73.u b85
  replace f72 := f72.u b85
  replace f51 := f51.u b85
  replace f43 := f43.u b85
  replace f37 := f37.u b85
  replace f56 := f56.u b85
  replace f67_1 := f67_1.u b85
  replace f78 := f78.u b85
  replace f83 := f83.u b85
  refine wl_p (fun _ => o_move rfl) ?_
  refine wl_p (fun _ => o_ext20 rfl) ?_
  refine wl_p (fun _ => o_ext21 rfl) ?_
  refine wl_p (fun _ => o_assign rfl) ?_
  refine wl_p (fun _ => o_assign rfl) ?_
  refine wl_nil ?_
  refine rk_seq ?_
  refine rk_region ?_
  refine wl_call rfl (C_pBytesBad _ (by omega)) ?_
  rintro v89 w89 ⟨rfl, b89⟩
  have s89 := b89.size
  replace hw := hw.trans (b89.mono hw.size)
  replace f83 := f83.u b89
  replace f78 := f78.u b89
  replace f67_1 := f67_1.u b89
  replace f56 := f56.u b89
  replace f37 := f37.u b89
  replace f43 := f43.u b89
  replace f51 := f51.u b89
  replace f72 := f72.u b89
  replace f73 := f73.u b89
  replace f85 := f85.u b89
  refine wl_p (fun _ => o_move rfl) ?_
  refine wl_p (fun _ => o_ext20 rfl) ?_
  refine wl_p (fun _ => o_ext21 rfl) ?_
  refine wl_p (fun _ => o_assign rfl) ?_
  refine wl_p (fun _ => o_assign rfl) ?_
  refine wl_nil ?_
  refine rk_seq ?_
  refine rk_region ?_
  refine wl_call rfl (C_pBytesBad _ (by omega)) ?_
  rintro v93 w93 ⟨rfl, b93⟩
  have s93 := b93.size
  replace hw := hw.trans (b93.mono hw.size)
  replace f85 := f85.u b93
  replace f73 := f73.u b93
  replace f72 := f72.u b93
  replace f51 := f51.u b93
  replace f43 := f43.u b93
  replace f37 := f37.u b93
  replace f56 := f56.u b93
  replace f67_1 := f67_1.u b93
  replace f78 := f78.u b93
  replace f83 := f83.u b93
  refine wl_p (fun _ => o_move rfl) ?_
  refine wl_p (fun _ => o_ext20 rfl) ?_
  refine wl_p (fun _ => o_ext21 rfl) ?_
  refine wl_p (fun _ => o_assign rfl) ?_
  refine wl_p (fun _ => o_assign rfl) ?_
  refine wl_nil ?_
  refine rk_seq ?_
  refine rk_region ?_
  dsimp only [List.append]
  refine wl_call rfl (C_lives10 _ (hT.u hw)) ?_
  rintro v96 w96 ⟨rfl, b96⟩
  have s96 := b96.size
  replace hw := hw.trans (b96.mono hw.size)
  replace f83 := f83.u b96
  replace f78 := f78.u b96
  replace f67_1 := f67_1.u b96
  replace f56 := f56.u b96
  replace f37 := f37.u b96
  replace f43 := f43.u b96
  replace f51 := f51.u b96
  replace f72 := f72.u b96
  replace f73 := f73.u b96
  replace f85 := f85.u b96
  refine wl_p (fun _ => o_move rfl) ?_
  refine wl_p (fun _ => o_move rfl) ?_
  refine wl_p (fun _ => o_eq rfl rfl) ?_
  refine wl_p (fun _ => o_pick_t rfl rfl) ?_
  refine wl_p (fun _ => o_move rfl) ?_
  refine wl_p (fun _ => o_move rfl) ?_
  refine wl_p (fun _ => o_eq rfl rfl) ?_
  refine wl_p (fun _ => o_pick_t rfl rfl) ?_
  refine wl_p (fun _ => o_move rfl) ?_
  refine wl_p (fun _ => o_move rfl) ?_
  refine wl_p (fun _ => o_eq rfl rfl) ?_
  refine wl_p (fun _ => o_pick_t rfl rfl) ?_
  refine wl_p (fun _ => o_move rfl) ?_
  refine wl_p (fun _ => o_move rfl) ?_
  refine wl_p (fun _ => o_eq rfl rfl) ?_
  refine wl_p (fun _ => o_pick_t rfl rfl) ?_
  refine wl_p (fun _ => o_move rfl) ?_
  refine wl_p (fun _ => o_move rfl) ?_
  refine wl_p (fun _ => o_eq rfl rfl) ?_
  refine wl_p (fun _ => o_pick_t rfl rfl) ?_
  refine wl_p (fun _ => o_move rfl) ?_
  refine wl_p (fun _ => o_move rfl) ?_
  refine wl_p (fun _ => o_eq rfl rfl) ?_
  refine wl_p (fun _ => o_pick_t rfl rfl) ?_
  refine wl_p (fun _ => o_move rfl) ?_
  refine wl_p (fun _ => o_move rfl) ?_
  refine wl_p (fun _ => o_eq rfl rfl) ?_
  refine wl_p (fun _ => o_pick_t rfl rfl) ?_
  refine wl_p (fun _ => o_move rfl) ?_
  refine wl_p (fun _ => o_move rfl) ?_
  refine wl_p (fun _ => o_eq rfl rfl) ?_
  refine wl_p (fun _ => o_pick_t rfl rfl) ?_
  refine wl_p (fun _ => o_move rfl) ?_
  refine wl_p (fun _ => o_move rfl) ?_
  refine wl_p (fun _ => o_eq rfl rfl) ?_
  refine wl_p (fun _ => o_pick_t rfl rfl) ?_
  refine wl_p (fun _ => o_move rfl) ?_
  refine wl_p (fun _ => o_move rfl) ?_
  refine wl_p (fun _ => o_eq rfl rfl) ?_
  refine wl_p (fun _ => o_pick_t rfl rfl) ?_
  refine wl_p (fun _ => o_move rfl) ?_
  refine wl_p (fun _ => o_move rfl) ?_
  refine wl_p (fun _ => o_eq rfl rfl) ?_
  refine wl_p (fun _ => o_pick_t rfl rfl) ?_
  refine wl_p (fun _ => o_move rfl) ?_
  refine wl_p (fun _ => o_move rfl) ?_
  refine wl_p (fun _ => o_len (t := 22) Tryd.underlying22 rfl) ?_
  refine wl_p (fun _ => o_eq rfl rfl) ?_
  refine wl_p (fun _ => o_pick_t rfl rfl) ?_
  refine wl_p (fun _ => o_move rfl) ?_
  refine wl_p (fun _ => o_move rfl) ?_
  refine wl_p (fun _ => (o_iaddrA1 (12) Tryd.underlying22 Tryd.sizeOf5 rfl rfl (by omega) (Reads.some_ f85.to_Reads (by decide) (by omega)) (by omega))) ?_
  refine wl_r (o_loadB Tryd.isAgg5 rfl f85.to_Rd (by omega)) ?_
  refine wl_p (fun _ => o_eq rfl rfl) ?_
  refine wl_p (fun _ => o_pick_t rfl rfl) ?_
  refine wl_p (fun _ => o_move rfl) ?_
  refine wl_know 152 true rfl (decide_eq_true (by omega)) ?_
  refine wl_p (fun _ => o_move rfl) ?_
  refine wl_p (fun _ => o_eq rfl rfl) ?_
  refine wl_p (fun _ => o_pick_t rfl rfl) ?_
  refine wl_p (fun _ => o_move rfl) ?_
  refine wl_p (fun _ => o_move rfl) ?_
  refine wl_p (fun _ => o_eq rfl rfl) ?_
  refine wl_p (fun _ => o_pick_t rfl rfl) ?_
  refine wl_p (fun _ => o_move rfl) ?_
  refine wl_p (fun _ => o_move rfl) ?_
  refine wl_call rfl (C_pSpare _ f73 hs1) ?_
  rintro v162 w162_1 ⟨rfl, b162⟩
  have s162 := b162.size
  replace hw := hw.trans (b162.mono hw.size)
  replace f85 := f85.u b162
  replace f73 := f73.u b162
  replace f72 := f72.u b162
  replace f51 := f51.u b162
  replace f43 := f43.u b162
  replace f37 := f37.u b162
  replace f56 := f56.u b162
  replace f67_1 := f67_1.u b162
  replace f78 := f78.u b162
  replace f83 := f83.u b162
  refine wl_p (fun _ => o_eq rfl rfl) ?_
  refine wl_p (fun _ => o_pick_t rfl rfl) ?_
  refine wl_p (fun _ => o_move rfl) ?_
  refine wl_p (fun _ => o_move rfl) ?_
  refine wl_call rfl (C_pUsed _ (hT.u hw) f73 hI) ?_
  rintro v167 w167_1 ⟨A167, ⟨c167, ⟨rfl, ⟨f167, b167⟩⟩⟩⟩
  have qf167 := f167.cap
  have s167 := b167.size
  replace hw := hw.trans (b167.mono hw.size)
  replace f83 := f83.u b167
  replace f78 := f78.u b167
  replace f67_1 := f67_1.u b167
  replace f56 := f56.u b167
  replace f37 := f37.u b167
  replace f43 := f43.u b167
  replace f51 := f51.u b167
  replace f72 := f72.u b167
  replace f73 := f73.u b167
  replace f85 := f85.u b167
  refine wl_litZH [0] (by rfl) rfl rfl (by rfl) (by rfl) (by rfl) ?_
  rintro A168 w168 f168 b168
  have qf168 := f168.cap
  have s168 := b168.size
  replace hw := hw.trans (b168.mono hw.size)
  replace f85 := f85.u b168
  replace f73 := f73.u b168
  replace f72 := f72.u b168
  replace f51 := f51.u b168
  replace f43 := f43.u b168
  replace f37 := f37.u b168
  replace f56 := f56.u b168
  replace f67_1 := f67_1.u b168
  replace f78 := f78.u b168
  replace f83 := f83.u b168
  replace f167 := f167.u b168
  refine wl_call rfl (C_IntsZ _ f167.to_RZ f168.to_RZ rfl (by rfl) (by omega) (by omega)) ?_
  rintro v169 w169 ⟨rfl, b169⟩
  have s169 := b169.size
  replace hw := hw.trans (b169.mono hw.size)
  replace f167 := f167.u b169
  replace f83 := f83.u b169
  replace f78 := f78.u b169
  replace f67_1 := f67_1.u b169
  replace f56 := f56.u b169
  replace f37 := f37.u b169
  replace f43 := f43.u b169
  replace f51 := f51.u b169
  replace f72 := f72.u b169
  replace f73 := f73.u b169
  replace f85 := f85.u b169
  replace f168 := f168.u b169
  refine wl_p (fun _ => o_pick_t rfl rfl) ?_
  refine wl_p (fun _ => o_move rfl) ?_
  refine wl_p (fun _ => o_pick_t rfl rfl) ?_
  refine wl_p (fun _ => o_assign rfl) ?_
  refine wl_nil ?_
  refine ret1 rfl rfl ?_
  exact ⟨rfl, hw⟩
end Go.Proofs.YtklijaahbahcoaaDoor
/-
  Maps from small numbers to any values; ranges over them, with deletions on the way. No function of the program is named here.
-/
namespace Go.Proofs.YtklijaahbahcoaaDoor
set_option maxRecDepth 100000
open Go.RowKit
/-- A value in a map reads as itself. -/
def heldElem (v : Value) : Option (DataW Value × List MemPlace) := some (.held v, [])
theorem heldElem_inv {v : Value} {u : Value} {ps : List MemPlace} (h : heldElem v = some (.held u, ps)) : v = u := by
  unfold heldElem at h
  injection h with h
  injection h with h _
  injection h
/-- What is there at z. -/
def gAt {α : Type} (C : List (Option α)) (z : Int) : Option α := if 0 ≤ z then (C[z.toNat]?).getD none else none
def cntG {α : Type} (C : List (Option α)) : Nat := C.countP Option.isSome
section
variable {α : Type} {C : List (Option α)}
theorem cntG_le : cntG C ≤ C.length := List.countP_le_length
theorem gAt_nat {i : Nat} (h : i < C.length) : gAt C (i : Int) = C[i] := by
  rw [gAt, if_pos (by omega)]
  simp [h]
theorem gAt_out {z : Int} (h : ¬ (0 ≤ z ∧ z < (C.length : Int))) : gAt C z = none := by
  unfold gAt
  split
  · rw [List.getElem?_eq_none (by omega)]; rfl
  · rfl
theorem gAt_set {i : Nat} (h : i < C.length) (s : Option α) (z : Int) : gAt (C.set i s) z = if z = i then s else gAt C z := by
  unfold gAt
  by_cases hz : 0 ≤ z
  · rw [if_pos hz, if_pos hz, List.getElem?_set]
    by_cases e : z = i
    · rw [if_pos e, if_pos (by omega), if_pos h]; rfl
    · rw [if_neg e, if_neg (by omega)]
  · rw [if_neg hz, if_neg hz, if_neg (by omega)]
theorem gAt_none (n : Nat) (z : Int) : gAt (List.replicate n (none : Option α)) z = none := by
  unfold gAt
  split
  · rw [List.getElem?_replicate]
    split <;> rfl
  · rfl
theorem gAt_some {z : Int} {s : α} (h : gAt C z = some s) : ∃ i : Nat, ∃ hi : i < C.length, z = (i : Int) ∧ C[i] = some s := by
  unfold gAt at h
  split at h
  · cases hc : C[z.toNat]? with
    | none => rw [hc] at h; cases h
    | some c =>
      obtain ⟨h5, h6⟩ := List.getElem?_eq_some_iff.1 hc
      rw [hc] at h
      exact ⟨z.toNat, h5, by omega, by rw [h6]; exact h⟩
  · cases h
end
theorem cntG_set {α : Type} : ∀ (C : List (Option α)) {i : Nat} (h : i < C.length) (s : α), cntG (C.set i (some s)) = if (C[i]).isSome then cntG C else cntG C + 1
  | [], _, h, _ => absurd h (Nat.not_lt_zero _)
  | x :: C, 0, _, s => by cases x <;> simp [cntG]
  | x :: C, i + 1, h, s => by
    have ih := cntG_set C (i := i) (by simpa using h) s
    unfold cntG at ih ⊢
    rw [List.set_cons_succ, List.countP_cons, ih, List.countP_cons, List.getElem_cons_succ]
    split <;> omega
theorem cntG_del {α : Type} : ∀ (C : List (Option α)) {i : Nat} (h : i < C.length), cntG (C.set i none) = if (C[i]).isSome then cntG C - 1 else cntG C
  | [], _, h => absurd h (Nat.not_lt_zero _)
  | x :: C, 0, _ => by cases x <;> simp [cntG]
  | x :: C, i + 1, h => by
    have ih := cntG_del C (i := i) (by simpa using h)
    unfold cntG at ih ⊢
    rw [List.set_cons_succ, List.countP_cons, ih, List.countP_cons, List.getElem_cons_succ]
    split
    · rename_i hs
      have : 0 < List.countP Option.isSome C := List.countP_pos_iff.2 ⟨_, List.getElem_mem _, hs⟩
      omega
    · rfl
/-- What a map's datum says. -/
def SaysV (D : DataW Value) (C : List (Option Value)) : Prop := Maps.size D = cntG C ∧ ∀ z, (Lit.int .i64 z).wf = true → Maps.has D (.int .i64 z) = (gAt C z).isSome ∧ ∀ s, gAt C z = some s → ∀ d, D.atKey (.int .i64 z) d = .held s
/-- Block b is a map that holds what C has. -/
def MapV (w : World) (b : Nat) (C : List (Option Value)) : Prop := ∃ D, w.ownsMap (H := Value) Tryd.prog 3 heldElem b (cntG C) D ∧ SaysV D C
theorem Tryd.keyV : Go.Maps.Keyed Tryd.prog 3 := Go.Maps.int_keyed Tryd.underlying3
section
variable {w w' : World} {b b' lo hi : Nat} {C : List (Option Value)} {row : Option Nat}
theorem MapV.lt (h : MapV w b C) : b < w.heap.size := by obtain ⟨D, h, -⟩ := h; exact h.lt
theorem MapV.obj (h : MapV w b C) : ∃ es c, w.heap[b]? = some (.map es c) := by obtain ⟨_, ⟨_, _, h4, _⟩, _⟩ := h; exact ⟨_, _, h4⟩
theorem MapV.keep (h : MapV w b C) (hb : w'.heap[b]? = w.heap[b]?) : MapV w' b C := by
  obtain ⟨D, ⟨es, clock, h1, h2⟩, h3⟩ := h
  exact ⟨D, ⟨es, clock, hb.trans h1, h2⟩, h3⟩
theorem MapV.u (h : MapV w b C) (hb : Below w.heap.size w w') : MapV w' b C := h.keep (hb.block b h.lt)
theorem MapV.d (h : MapV w b C) : MapV w.drew b C := h
theorem MapV.k (h : MapV w b C) (hg : w.grownBy w' row) (ha : Ap row b (b + 1)) : MapV w' b C := h.keep (hg.block b h.lt (fun e => by have := ha b e.symm; omega))
theorem MapV.y {e : TypeId} (h : MapV w b C) (hg : Grew w w' e row) (_ : 0 = 0) : MapV w' b C := by
  refine h.keep (hg.g.block b h.lt (fun e' => ?_))
  obtain ⟨cs, f, h3⟩ := hg.ty b e'.symm
  obtain ⟨_, _, h4⟩ := h.obj
  rw [h4] at h3
  cases h3
theorem MapV.c (h : MapV w b C) (hc : Chg lo hi w w') (ha : b < lo ∨ hi ≤ b) : MapV w' b C := h.keep (hc.block b h.lt ha)
end
section
variable {P : Program} {fn : Func} {F : Ending → World → Prop} {N : Nat} {ks : List K} {ops : Array Oper} {tg : Tags} {l : List Oper} {fr : Fr} {w : World} {ty t t' e : TypeId} {pos : String} {aft : Array Edge} {gd : Option (Nat × Bool)} {d b n : Nat} {x y z : Operand} {C : List (Option Value)} {q : Int} {s zv : Value}
/-- m[x] -/
theorem o_lookV {r : Option Value} (hu : Tryd.prog.underlying t = some (.map 3 e)) (hzv : ∀ w, (zeroValue e).run Tryd.prog w = .ok zv w) (hx : fr.ev x = some (.map (some b))) (hy : fr.ev y = some (.int .i64 q)) (hS : MapV w b C) (hr : gAt C q = r) (hq : (Lit.int .i64 q).wf = true) :
    OpV Tryd.prog N fr w (.lookup t x y false) ty (r.getD zv) w := fun a ha o ho' _ => by
  subst hr
  obtain ⟨D, ho, hs, hh⟩ := hS
  obtain ⟨h1, h2⟩ := hh q hq
  obtain ⟨v, ps, hrun, hv⟩ := ho.lookup Tryd.keyV hu (hzv w) (rfl : heldElem zv = some (.held zv, [])) (Go.Maps.keyOf_int_mk Tryd.underlying3 hq)
  have hv2 : v = (gAt C q).getD zv := by
    cases hc : gAt C q with
    | none =>
      rw [hc] at h1
      rw [Maps.atKey_of_not_has h1] at hv
      exact heldElem_inv hv
    | some s =>
      rw [h2 s hc] at hv
      exact heldElem_inv hv
  simp [execOp, ho', ha.ev hx, ha.ev hy, hrun, hv2]
theorem owns_tight {w : World} {b n : Nat} {D : DataW Value} (h : w.ownsMap (H := Value) Tryd.prog 3 heldElem b n D) {m : Nat} (hm : Maps.size D = m) : w.ownsMap (H := Value) Tryd.prog 3 heldElem b m D := by
  subst hm
  obtain ⟨es, clock, g1, g2, g3, g4⟩ := h
  exact ⟨es, clock, g1, g2, by rw [g4]; simp [Maps.size, length_sorted], g4⟩
theorem SaysV.put {D : DataW Value} {i : Nat} (h : SaysV D C) (ht : Maps.Tidy D) (hm : Maps.IsMap D) (hi : i < C.length) (hwf : (Lit.int .i64 (i : Int)).wf = true) : SaysV (D.put (.int .i64 (i : Int)) (.held s)) (C.set i (some s)) := by
  have hk := Tryd.keyV.key (Go.Maps.keyOf_int_mk Tryd.underlying3 hwf)
  obtain ⟨hs, hh⟩ := h
  refine ⟨by rw [Maps.size_put ht, (hh _ hwf).1, gAt_nat hi, cntG_set C hi, hs], fun u hu' => ?_⟩
  rw [gAt_set hi]
  by_cases hd' : u = i
  · subst hd'
    rw [if_pos rfl]
    refine ⟨Maps.has_put_same hm hk _, fun s' e d => ?_⟩
    injection e with e
    rw [← e]
    exact Maps.atKey_put_same hm hk _ _
  · rw [if_neg hd']
    have hne : Lit.int .i64 u ≠ .int .i64 (i : Int) := fun h => hd' (by injection h)
    refine ⟨by rw [Maps.has_put_other hne]; exact (hh u hu').1, fun s' e d => ?_⟩
    rw [Maps.atKey_put_other hne]
    exact (hh u hu').2 s' e d
theorem SaysV.del {D : DataW Value} {i : Nat} (h : SaysV D C) (ht : Maps.Tidy D) (hi : i < C.length) (hwf : (Lit.int .i64 (i : Int)).wf = true) : SaysV (D.del (.int .i64 (i : Int))) (C.set i none) := by
  obtain ⟨hs, hh⟩ := h
  have h1 := Maps.size_del (k := .int .i64 (i : Int)) ht
  rw [(hh _ hwf).1, gAt_nat hi, hs] at h1
  refine ⟨?_, fun u hu' => ?_⟩
  · rw [cntG_del C hi]
    split
    · rename_i hc; rw [if_pos hc] at h1; omega
    · rename_i hc; rw [if_neg hc] at h1; omega
  rw [gAt_set hi]
  by_cases hd' : u = i
  · subst hd'
    rw [if_pos rfl]
    exact ⟨Maps.has_del_same, fun s e => by cases e⟩
  · rw [if_neg hd']
    have hne : Lit.int .i64 u ≠ .int .i64 (i : Int) := fun h => hd' (by injection h)
    refine ⟨by rw [Maps.has_del_other hne]; exact (hh u hu').1, fun s' e d => ?_⟩
    rw [Maps.atKey_del_other hne]
    exact (hh u hu').2 s' e d
/-- m[x] = s -/
theorem wl_putV {i : Nat} (hu : Tryd.prog.underlying t = some (.map 3 e)) (hx : fr.ev x = some (.map (some b))) (hy : fr.ev y = some (.int .i64 q)) (hS : MapV w b C) (hz : fr.ev z = some s) (hq : q = (i : Int)) (hi : i < C.length) (hL : C.length ≤ 1000000)
    (hk : ∀ w', MapV w' b (C.set i (some s)) → GrewM w w' b → w'.heap.size = w.heap.size → WL Tryd.prog fn F N ks ops tg.tail l fr w')
    (ht : tg.loud = true := by rfl) (hg : onG ops fr gd = true := by rfl) (hq : tg.calm = false ∨ tg.rw.may (some b) := by exact .inl rfl) : WL Tryd.prog fn F N ks ops tg (⟨none, .mapUpdate t x y z, ty, pos, aft, gd⟩ :: l) fr w := by
  rename_i hq0
  subst hq0
  have hwf : (Lit.int .i64 (i : Int)).wf = true := by
    simp only [Lit.wf, Bool.and_eq_true, decide_eq_true_eq]
    exact ⟨by show (-9223372036854775808 : Int) ≤ _; omega, by show _ ≤ (9223372036854775807 : Int); omega⟩
  have hcl := cntG_le (C := C)
  obtain ⟨D, ho, hh⟩ := hS
  obtain ⟨w', hrun, ho', hT⟩ := ho.store Tryd.keyV hu (by simp only [maxLen]; omega) (Go.Maps.keyOf_int_mk Tryd.underlying3 hwf) (rfl : heldElem s = some (.held s, []))
  have hgr := hT.grown
  have hz' : w'.heap.size = w.heap.size := by obtain ⟨_, _, _, _, _, rfl⟩ := hT; simp [Go.ChangeMaps.setBlock]
  have hp := hh.put (s := s) (ho.tidy Tryd.keyV) ho.isMap hi hwf
  refine wl_u (w' := w') (fun a ha o hop => ?_) (hk w' ⟨_, owns_tight ho' hp.1, hp⟩ ⟨hgr, by obtain ⟨_, _, h4, _⟩ := ho; exact ⟨_, _, h4⟩⟩ hz') ht hg (hq.imp id (Rw.of_may hgr))
  simp [execOp, hop, ha.ev hx, ha.ev hy, ha.ev hz, hrun]
/-- delete(m, x) -/
theorem wl_delV {i : Nat} (hu : Tryd.prog.underlying t = some (.map 3 e)) (hx : fr.ev x = some (.map (some b))) (hy : fr.ev y = some (.int .i64 q)) (hS : MapV w b C) (hq : q = (i : Int)) (hi : i < C.length) (hL : C.length ≤ 1000000)
    (hk : ∀ w', MapV w' b (C.set i none) → GrewM w w' b → w'.heap.size = w.heap.size → WL Tryd.prog fn F N ks ops tg.tail l fr w')
    (ht : tg.loud = true := by rfl) (hg : onG ops fr gd = true := by rfl) (hq : tg.calm = false ∨ some b = tg.row := by exact .inl rfl) : WL Tryd.prog fn F N ks ops tg (⟨none, .call { callee := .builtin .delete, args := #[x, y], argTypes := #[t, 3] }, ty, pos, aft, gd⟩ :: l) fr w := by
  rename_i hq0
  subst hq0
  have hwf : (Lit.int .i64 (i : Int)).wf = true := by
    simp only [Lit.wf, Bool.and_eq_true, decide_eq_true_eq]
    exact ⟨by show (-9223372036854775808 : Int) ≤ _; omega, by show _ ≤ (9223372036854775807 : Int); omega⟩
  obtain ⟨D, ho, hh⟩ := hS
  obtain ⟨w', hrun, ho', hT⟩ := ho.drop Tryd.keyV hu (Go.Maps.keyOf_int_mk Tryd.underlying3 hwf) ty
  have hgr := hT.grown
  have hz' : w'.heap.size = w.heap.size := by obtain ⟨_, _, _, _, _, rfl⟩ := hT; simp [Go.ChangeMaps.setBlock]
  have hp := hh.del (ho.tidy Tryd.keyV) hi hwf
  exact wl_v0 (o_builtin (v := .tuple #[]) (xs := [x, y]) (vs := [.map (some b), .int .i64 (i : Int)]) (by simp [Fr.evs, hx, hy]) (by simp [builtin, hrun]) (by simp)) (hk w' ⟨_, owns_tight ho' hp.1, hp⟩ ⟨hgr, by obtain ⟨_, _, h4, _⟩ := ho; exact ⟨_, _, h4⟩⟩ hz') ht hg (hq.imp id fun (e : some b = tg.row) => e ▸ hgr)
/-- len(m) -/
theorem o_lenV {k : Nat} (hu : Tryd.prog.underlying t = some (.map 3 e)) (hx : fr.ev x = some (.map (some b))) (hS : MapV w b C) (hk : cntG C = k) : OpV Tryd.prog N fr w (.call { callee := .builtin .len, args := #[x], argTypes := #[t] }) ty (.int .i64 (k : Int)) w := by
  obtain ⟨D, ho, hs, hh⟩ := hS
  have hrun := ho.len hu ty
  rw [hs, hk] at hrun
  exact o_builtin (xs := [x]) (vs := [.map (some b)]) (by simp [Fr.evs, hx]) (by simp [builtin, hrun]) (by simp)
theorem MapV.made (w : World) (n : Nat) : MapV (w.alloc (.map #[] 0)) w.heap.size (List.replicate n none) := by
  have h0 : cntG (List.replicate n (none : Option Value)) = 0 := by simp [cntG, List.countP_eq_zero]
  refine ⟨.map [], ?_, by rw [h0]; rfl, fun z _ => ?_⟩
  · rw [h0]; exact World.ownsMap_made w _ _ _
  · rw [gAt_none]; exact ⟨rfl, fun s e => by cases e⟩
theorem wl_makeV (n : Nat) (hu : Tryd.prog.underlying t = some (.map 3 e)) (hk : ∀ b w', MapV w' b (List.replicate n none) → Below w.heap.size w w' → w.heap.size ≤ b → b < w'.heap.size → WL Tryd.prog fn F N ks ops tg.tail l ((d, .map (some b)) :: fr) w')
    (ht : tg.loud = true := by rfl) (hg : onG ops fr gd = true := by rfl) (hd : Nat.blt d N = true := by rfl) : WL Tryd.prog fn F N ks ops tg (⟨some d, .makeMap t none, ty, pos, aft, gd⟩ :: l) fr w :=
  wl_v (w' := w.alloc (.map #[] 0)) (fun a _ o ho _ => by simp [execOp, ho, run_makeMap]) (hk _ _ (MapV.made w n) (below_alloc w _) (Nat.le_refl _) (by simp)) ht hg hd (.inr (grown_of_below (below_alloc w _) _))
end
/-- An iterator in block r goes through the map in block b, which holds what C has; what is still to come. -/
def IterV (w : World) (r b : Nat) (C : List (Option Value)) (lf : Int → Bool) (k : Nat) : Prop :=
  ∃ D left n, w.ranges (H := Value) Tryd.prog 3 heldElem b r n D left k ∧ SaysV D C ∧ ∀ z, (Lit.int .i64 z).wf = true → left (.int .i64 z) = lf z
section
variable {w w' : World} {r b b2 k lo hi : Nat} {C : List (Option Value)} {lf : Int → Bool}
theorem IterV.kept {row : Option Nat} (h : IterV w r b C lf k) (hg : w.grownBy w' row) (h1 : some b ≠ row) (h2 : some r ≠ row) : IterV w' r b C lf k := by
  obtain ⟨D, left, n, h3, h4⟩ := h
  exact ⟨D, left, n, h3.kept hg h1 h2, h4⟩
theorem IterV.u (h : IterV w r b C lf k) (hb : Below w.heap.size w w') : IterV w' r b C lf k := h.kept (row := none) (grownBy_of_below hb none) (by simp) (by simp)
theorem IterV.d (h : IterV w r b C lf k) : IterV w.drew r b C lf k := h.u (below_drew w)
theorem IterV.lt (h : IterV w r b C lf k) : r < w.heap.size := by obtain ⟨D, left, n, h3, h4⟩ := h; exact h3.lt
theorem IterV.ne (h : IterV w r b C lf k) : r ≠ b := by obtain ⟨D, left, n, h3, h4⟩ := h; exact h3.ne
theorem IterV.objs (h : IterV w r b C lf k) : (∃ es c, w.heap[b]? = some (.map es c)) ∧ ∃ x y z u, w.heap[r]? = some (.mapIter x y z u) := by
  obtain ⟨D, left, n, ⟨es, clock, since, seen, c0, h1, _, _, _, h2, _⟩, _⟩ := h
  exact ⟨⟨_, _, h1⟩, _, _, _, _, h2⟩
theorem IterV.y {e : TypeId} {row : Option Nat} (h : IterV w r b C lf k) (hg : Grew w w' e row) (_ : 0 = 0) : IterV w' r b C lf k := by
  obtain ⟨⟨es, c, h1⟩, x, y, z, u, h2⟩ := h.objs
  refine h.kept hg.g (fun e => ?_) (fun e => ?_)
  · obtain ⟨cs, f, h3⟩ := hg.ty b e.symm
    rw [h1] at h3; cases h3
  · obtain ⟨cs, f, h3⟩ := hg.ty r e.symm
    rw [h2] at h3; cases h3
theorem IterV.m2 (h : IterV w r b C lf k) (hg : GrewM w w' b2) (hne : b ≠ b2) : IterV w' r b C lf k := by
  obtain ⟨_, x, y, z, u, h2⟩ := h.objs
  refine h.kept hg.g (fun e => hne (by injection e)) (fun e => ?_)
  injection e with e
  subst e
  obtain ⟨_, _, h3⟩ := hg.m
  rw [h2] at h3; cases h3
theorem IterV.to_MapV (h : IterV w r b C lf k) : MapV w b C := by
  obtain ⟨D, left, n, h3, h4, _⟩ := h
  exact ⟨D, owns_tight h3.owns h4.1, h4⟩
end
section
variable {P : Program} {fn : Func} {F : Ending → World → Prop} {N : Nat} {ks : List K} {ops : Array Oper} {tg : Tags} {l : List Oper} {fr : Fr} {w : World} {ty t e : TypeId} {pos : String} {aft : Array Edge} {gd : Option (Nat × Bool)} {d b r k : Nat} {x y : Operand} {C : List (Option Value)} {lf : Int → Bool} {q : Int}
theorem wl_rangeV (hu : Tryd.prog.underlying t = some (.map 3 e)) (hx : fr.ev x = some (.map (some b))) (hS : MapV w b C)
    (hk : ∀ r w', IterV w' r b C (fun z => (gAt C z).isSome) (cntG C) → Below w.heap.size w w' → w.heap.size ≤ r → r < w'.heap.size → WL Tryd.prog fn F N ks ops tg.tail l ((d, .pointer (some ⟨r, 0, none⟩)) :: fr) w')
    (ht : tg.loud = true := by rfl) (hg : onG ops fr gd = true := by rfl) (hd : Nat.blt d N = true := by rfl) : WL Tryd.prog fn F N ks ops tg (⟨some d, .range t x, ty, pos, aft, gd⟩ :: l) fr w := by
  obtain ⟨D, ho, hs, hD⟩ := hS
  obtain ⟨w', hrun, h1, h2, h3⟩ := ho.range Tryd.keyV hu
  have hb := below_of_grown_none h2
  rw [hs] at h1
  exact wl_v (w' := w') (fun a ha o ho' _ => by simp [execOp, ho', ha.ev hx, hrun]) (hk _ w' ⟨D, _, _, h1, ⟨hs, hD⟩, fun z hz => (hD z hz).1⟩ hb (Nat.le_refl _) (by omega)) ht hg hd (.inr (grown_of_below hb _))
theorem wl_nextV (hx : fr.ev x = some (.pointer (some ⟨r, 0, none⟩))) (hI : IterV w r b C lf k) (hl : C.length ≤ 1000000)
    (h0 : (∀ z, (Lit.int .i64 z).wf = true → lf z = false) → WL Tryd.prog fn F N ks ops tg.tail l ((d, .tuple #[.bool false]) :: fr) w)
    (h1 : ∀ (i : Nat) (s : Value) (w' : World) (k' : Nat), (hi : i < C.length) → C[i] = some s → lf i = true → IterV w' r b C (fun z => lf z && decide (z ≠ i)) k' → k' < k → w.grownBy w' (some r) → w'.heap.size = w.heap.size →
      (Instr.entry (.pointer (some ⟨r, 0, none⟩))).run Tryd.prog w' = .ok (.tuple #[.int .i64 (i : Int), s]) w' → WL Tryd.prog fn F N ks ops tg.tail l ((d, .tuple #[.bool true, .int .i64 (i : Int), s]) :: fr) w')
    (ht : tg.loud = true := by rfl) (hg : onG ops fr gd = true := by rfl) (hd : Nat.blt d N = true := by rfl) (hq : tg.calm = false := by rfl) : WL Tryd.prog fn F N ks ops tg (⟨some d, .next x false, ty, pos, aft, gd⟩ :: l) fr w :=
  fun a ha => left_loud ht fun K hK => by
    rw [if_pos (wanted_on (o := ⟨some d, .next x false, ty, pos, aft, gd⟩) ha hg)]
    obtain ⟨D, left, n, h3, ⟨hs0, hD⟩, hL⟩ := hI
    unfold Oper.wp
    rcases h3.next Tryd.keyV ty with ⟨_, hl0, hrun⟩ | ⟨key, v, kl, y, w', cnt', hkey, hlk, hv, hat, hrun, hrg, hlt, hgr, hsz, hen⟩
    · simp [execOp, ha.ev hx, hrun, Result.andThen]
      exact hK _ _ (.inl hq) (h0 (fun z hz => by rw [← hL z hz]; exact hl0 _) _ (ha.put hd _))
    · obtain ⟨z, rfl, rfl, hzw⟩ := Maps.keyOf_i64 Tryd.underlying3 hkey
      have hhas := (hD z hzw).1
      rw [Maps.has_true_of_atKey hat] at hhas
      obtain ⟨s, hs⟩ := Option.isSome_iff_exists.1 hhas.symm
      have h4 := (hD z hzw).2 s hs (.lit (.int .i64 0))
      rw [hat] at h4
      obtain rfl : v = s := heldElem_inv (ps := y.2) (by rw [hv, ← h4])
      obtain ⟨i, hi, rfl, hci⟩ := gAt_some hs
      simp [execOp, ha.ev hx, hrun, Result.andThen]
      refine hK _ _ (.inl hq) (h1 i v w' cnt' hi hci (by rw [← hL _ hzw]; exact hlk) ⟨D, _, n, hrg, ⟨hs0, hD⟩, fun q hq' => ?_⟩ hlt hgr hsz hen _ (ha.put hd _))
      show (left (.int .i64 q) && !(Lit.int .i64 q).sameKey (.int .i64 (i : Int))) = _
      rw [hL q hq']
      by_cases e : q = (i : Int)
      · subst e; rw [WideAt.sameKey_self (Tryd.keyV.key hkey)]; simp
      · rw [Maps.sameKey_ne (fun h => e (by injection h))]; simp [e]
/-- delete(m, x) while a range goes on. -/
theorem wl_delIterV {i : Nat} (hu : Tryd.prog.underlying t = some (.map 3 e)) (hx : fr.ev x = some (.map (some b))) (hy : fr.ev y = some (.int .i64 q)) (hI : IterV w r b C lf k) (hq : q = (i : Int)) (hi : i < C.length) (hL : C.length ≤ 1000000)
    (hk : ∀ w' k', IterV w' r b (C.set i none) (fun z => lf z && decide (z ≠ i)) k' → k' ≤ k → GrewM w w' b → w'.heap.size = w.heap.size → WL Tryd.prog fn F N ks ops tg.tail l fr w')
    (ht : tg.loud = true := by rfl) (hg : onG ops fr gd = true := by rfl) (hq : tg.calm = false ∨ some b = tg.row := by exact .inl rfl) : WL Tryd.prog fn F N ks ops tg (⟨none, .call { callee := .builtin .delete, args := #[x, y], argTypes := #[t, 3] }, ty, pos, aft, gd⟩ :: l) fr w := by
  rename_i hq0
  subst hq0
  have hwf : (Lit.int .i64 (i : Int)).wf = true := by
    simp only [Lit.wf, Bool.and_eq_true, decide_eq_true_eq]
    exact ⟨by show (-9223372036854775808 : Int) ≤ _; omega, by show _ ≤ (9223372036854775807 : Int); omega⟩
  have hobj := hI.objs.1
  obtain ⟨D, left, n, h3, hh, hlf⟩ := hI
  have hkey := Go.Maps.keyOf_int_mk Tryd.underlying3 hwf
  obtain ⟨w', k', hrun, h4, hle, hT⟩ := h3.drop Tryd.keyV hu hkey ty
  have hgr := hT.grown
  have hz' : w'.heap.size = w.heap.size := by obtain ⟨_, _, _, _, _, rfl⟩ := hT; simp [Go.ChangeMaps.setBlock]
  refine wl_v0 (o_builtin (v := .tuple #[]) (xs := [x, y]) (vs := [.map (some b), .int .i64 (i : Int)]) (by simp [Fr.evs, hx, hy]) (by simp [builtin, hrun]) (by simp)) (hk w' k' ⟨_, _, n, h4, hh.del (h3.owns.tidy Tryd.keyV) hi hwf, fun z hz => ?_⟩ hle ⟨hgr, hobj⟩ hz') ht hg (hq.imp id fun (e : some b = tg.row) => e ▸ hgr)
  show (left (.int .i64 z) && !(Lit.int .i64 z).sameKey (.int .i64 (i : Int))) = _
  rw [hlf z hz]
  by_cases e : z = (i : Int)
  · subst e; rw [WideAt.sameKey_self (Tryd.keyV.key hkey)]; simp
  · rw [Maps.sameKey_ne (fun h => e (by injection h))]; simp [e]
theorem o_extV10 {a : Value} (hx : fr.ev x = some (.tuple #[a])) : OpV Tryd.prog N fr w (.extract x 0) ty a w := fun a ha o ho _ => by simp [execOp, ho, ha.ev hx, Instr.extract]
theorem o_entryV {v : Value} (hx : fr.ev x = some (.pointer (some ⟨r, 0, none⟩))) (hen : (Instr.entry (.pointer (some ⟨r, 0, none⟩))).run Tryd.prog w = .ok v w) : OpV Tryd.prog N fr w (.entry x) ty v w := fun a ha o ho _ => by
  simp [execOp, ho, ha.ev hx, hen]
end
end Go.Proofs.YtklijaahbahcoaaDoor
/-
  PagesKeeps: what the maps hold, and what holds of the disk; plain laws.
-/
namespace Go.Proofs.YtklijaahbahcoaaDoor
set_option maxRecDepth 100000
open Go.RowKit
theorem OwnZ.c {w w' : World} {lo hi lo' hi' cp : Nat} {A : Option Addr} {L : List Int} (h : OwnZ w lo hi A cp L) (hc : Chg lo' hi' w w') (ha : hi ≤ lo' ∨ hi' ≤ lo) : OwnZ w' lo hi A cp L := RowH.c h hc ha
/-! What a map of bytes holds. -/
def CvE (w : World) (base : Nat) : Option Value → Option By → Prop
  | none, none => True
  | some v, some b => ∃ A c, v = .slice A b.length c ∧ Rd w A b ∧ ∀ k, blk A = some k → base ≤ k ∧ TyAt w k 5
  | _, _ => False
structure Cv (w : World) (base : Nat) (C : List (Option Value)) (H : List (Option By)) : Prop where
  len : C.length = H.length
  el : ∀ i (h1 : i < C.length) (h2 : i < H.length), CvE w base C[i] H[i]
section
variable {w w' : World} {base lo hi : Nat} {C : List (Option Value)} {H : List (Option By)} {xo : Option Value} {yo : Option By} {row : Option Nat}
theorem Rd.keepV {A : Option Addr} {l : By} (h : Rd w A l) (hk : ∀ k, blk A = some k → k < w.heap.size → w'.heap[k]? = w.heap[k]?) : Rd w' A l := by
  by_cases hl : l = []
  · subst hl; exact ⟨h.1, fun h => absurd rfl h⟩
  · obtain ⟨b, o, rfl, hcl⟩ := h.2 (fun e => hl (by cases l with | nil => rfl | cons x y => cases e))
    refine ⟨h.1, fun _ => ⟨b, o, rfl, fun j u hj => ?_⟩⟩
    have h1 := hcl j u hj
    have hlt : b < w.heap.size := block_lt_of_cell h1
    rw [← h1]
    show World.cell? w' _ = World.cell? w _
    unfold World.cell?
    rw [show w'.heap[b]? = w.heap[b]? from hk b rfl hlt]
theorem CvE.keep (hc : CvE w base xo yo) (hk : ∀ k, base ≤ k → TyAt w k 5 → w'.heap[k]? = w.heap[k]?) : CvE w' base xo yo := by
  match xo, yo with
  | none, none => exact trivial
  | some v, some b =>
    obtain ⟨A, c, h1, h4, h5⟩ := hc
    exact ⟨A, c, h1, h4.keepV (fun k e _ => hk k (h5 k e).1 (h5 k e).2), fun k e => ⟨(h5 k e).1, (h5 k e).2.keep (hk k (h5 k e).1 (h5 k e).2)⟩⟩
  | none, some _ => exact hc.elim
  | some _, none => exact hc.elim
theorem Cv.u (h : Cv w base C H) (hb : Below w.heap.size w w') : Cv w' base C H := ⟨h.len, fun i h1 h2 => (h.el i h1 h2).keep (fun k _ ht => hb.block k ht.lt)⟩
theorem Cv.d (h : Cv w base C H) : Cv w.drew base C H := h.u (below_drew w)
theorem Cv.y {e' : TypeId} (h : Cv w base C H) (hg : Grew w w' e' row) (hne : e' ≠ 5) : Cv w' base C H :=
  ⟨h.len, fun i h1 h2 => (h.el i h1 h2).keep (fun k hb ht => hg.g.block k ht.lt (fun e => by
    obtain ⟨_, _, h3⟩ := ht
    obtain ⟨_, _, h4⟩ := hg.ty k e.symm
    rw [h3] at h4
    injection h4 with h4
    injection h4 with _ h4
    exact hne h4.symm))⟩
theorem Cv.m {b : Nat} (h : Cv w base C H) (hg : GrewM w w' b) : Cv w' base C H :=
  ⟨h.len, fun i h1 h2 => (h.el i h1 h2).keep (fun k hb ht => hg.g.block k ht.lt (fun e => by
    obtain ⟨_, _, h3⟩ := ht
    obtain ⟨_, _, h4⟩ := hg.m
    injection e with e
    subst e
    rw [h3] at h4
    cases h4))⟩
theorem Cv.c (h : Cv w base C H) (hc : Chg lo hi w w') (ha : hi ≤ base) : Cv w' base C H :=
  ⟨h.len, fun i h1 h2 => (h.el i h1 h2).keep (fun k hb ht => hc.block k ht.lt (by omega))⟩
/-- An iterator's step changes no bytes. -/
theorem Cv.it {r : Nat} (h : Cv w base C H) (hg : w.grownBy w' (some r)) (hr : ∃ x y z u, w.heap[r]? = some (.mapIter x y z u)) : Cv w' base C H :=
  ⟨h.len, fun i h1 h2 => (h.el i h1 h2).keep (fun k hb ht => hg.block k ht.lt (fun e => by
    obtain ⟨_, _, h3⟩ := ht
    obtain ⟨_, _, _, _, h4⟩ := hr
    injection e with e
    subst e
    rw [h3] at h4
    cases h4))⟩
theorem Cv.none_ (n : Nat) : Cv w base (List.replicate n none) (List.replicate n none) :=
  ⟨by simp, fun i h1 h2 => by rw [List.getElem_replicate, List.getElem_replicate]; exact trivial⟩
theorem Cv.del_ (h : Cv w base C H) (i : Nat) : Cv w base (C.set i none) (H.set i none) :=
  ⟨by rw [List.length_set, List.length_set, h.len], fun j h1 h2 => by
    rw [List.length_set] at h1 h2
    rw [List.getElem_set, List.getElem_set]
    split
    · exact trivial
    · exact h.el j h1 h2⟩
theorem Cv.put_ {A : Option Addr} {cp : Nat} {b : By} (h : Cv w base C H) (i : Nat) (hs : OwnH w lo hi A cp b) (hl : base ≤ lo) : Cv w base (C.set i (some (.slice A b.length cp))) (H.set i (some b)) :=
  ⟨by rw [List.length_set, List.length_set, h.len], fun j h1 h2 => by
    rw [List.length_set] at h1 h2
    rw [List.getElem_set, List.getElem_set]
    split
    · exact ⟨A, cp, rfl, hs.to_Rd, fun k e => ⟨by have := RowH.lt hs k e; omega, RowH.ty hs k e⟩⟩
    · exact h.el j h1 h2⟩
theorem Cv.some_ (h : Cv w base C H) {i : Nat} {v : Value} (hi : i < C.length) (hv : C[i] = some v) : ∃ b A c, gAt H (i : Int) = some b ∧ v = .slice A b.length c ∧ Rd w A b := by
  have h2 : i < H.length := by rw [← h.len]; exact hi
  have h1 := h.el i hi h2
  rw [hv] at h1
  cases hh : H[i] with
  | none => rw [hh] at h1; exact h1.elim
  | some b =>
    rw [hh] at h1
    obtain ⟨A, c, e, h3, _⟩ := h1
    exact ⟨b, A, c, by rw [gAt_nat h2, hh], e, h3⟩
theorem Cv.get_ (h : Cv w base C H) (z : Int) : (gAt C z = none ∧ gAt H z = none) ∨ ∃ b A c, gAt H z = some b ∧ gAt C z = some (.slice A b.length c) ∧ Rd w A b := by
  cases hc : gAt C z with
  | some v =>
    obtain ⟨i, hi, rfl, hv⟩ := gAt_some hc
    obtain ⟨b, A, c, h1, h2, h3⟩ := h.some_ hi hv
    exact .inr ⟨b, A, c, h1, by rw [h2], h3⟩
  | none =>
    refine .inl ⟨rfl, ?_⟩
    by_cases hz : 0 ≤ z ∧ z < (H.length : Int)
    · obtain ⟨i, rfl⟩ : ∃ i : Nat, z = (i : Int) := ⟨z.toNat, by omega⟩
      have h2 : i < H.length := by omega
      have h1 : i < C.length := by rw [h.len]; exact h2
      have h3 := h.el i h1 h2
      rw [gAt_nat h1] at hc
      rw [hc] at h3
      rw [gAt_nat h2]
      cases hh : H[i] with
      | none => rfl
      | some b => rw [hh] at h3; exact h3.elim
    · exact gAt_out hz
theorem Cv.cnt (h : Cv w base C H) : cntG C = cntG H := by
  have e : C.map Option.isSome = H.map Option.isSome := by
    apply List.ext_getElem (by rw [List.length_map, List.length_map, h.len])
    intro i h1 h2
    rw [List.length_map] at h1 h2
    rw [List.getElem_map, List.getElem_map]
    have h3 := h.el i h1 h2
    cases hc : C[i] <;> cases hh : H[i] <;> rw [hc, hh] at h3 <;> first | rfl | exact h3.elim
  have f : ∀ {α : Type} (L : List (Option α)), cntG L = (L.map Option.isSome).countP id := fun L => by
    rw [cntG, List.countP_map]; rfl
  rw [f, f, e]
end
/-- An iterator through the map in block b; the map in block bd is another one. -/
def IterW (w : World) (bd r b : Nat) (C : List (Option Value)) (lf : Int → Bool) (k : Nat) : Prop := b ≠ bd ∧ IterV w r b C lf k
section
variable {w w' : World} {bd r b k : Nat} {C : List (Option Value)} {lf : Int → Bool} {row : Option Nat}
theorem IterW.u (h : IterW w bd r b C lf k) (hb : Below w.heap.size w w') : IterW w' bd r b C lf k := ⟨h.1, h.2.u hb⟩
theorem IterW.d (h : IterW w bd r b C lf k) : IterW w.drew bd r b C lf k := ⟨h.1, h.2.d⟩
theorem IterW.y {e : TypeId} (h : IterW w bd r b C lf k) (hg : Grew w w' e row) (h0 : 0 = 0) : IterW w' bd r b C lf k := ⟨h.1, h.2.y hg h0⟩
theorem IterW.m (h : IterW w bd r b C lf k) (hg : GrewM w w' bd) : IterW w' bd r b C lf k := ⟨h.1, h.2.m2 hg h.1⟩
end
/-! What holds of the disk. -/
/-- Which pages are in use. -/
def usH (H : List (Option By)) : List Bool := H.map Option.isSome
theorem usH_len (H : List (Option By)) : (usH H).length = H.length := List.length_map _
theorem usH_get (H : List (Option By)) (k : Nat) : (usH H).getD k false = (gAt H (k : Int)).isSome := by
  by_cases h : k < H.length
  · rw [gAt_nat h, usH, List.getD_eq_getElem?_getD, List.getElem?_map, List.getElem?_eq_getElem h]; rfl
  · rw [gAt_out (by omega), getD_past _ (by rw [usH_len]; omega)]; rfl
theorem usH_at (H : List (Option By)) (z : Int) : usdAt (usH H) z = (gAt H z).isSome := by
  by_cases h : 0 ≤ z
  · obtain ⟨k, rfl⟩ : ∃ k : Nat, z = (k : Int) := ⟨z.toNat, by omega⟩
    rw [usdAt, Int.toNat_natCast, usH_get, decide_eq_true h, Bool.true_and]
  · rw [usdAt, decide_eq_false h, Bool.false_and, gAt_out (by omega)]; rfl
theorem usH_put (H : List (Option By)) (k : Nat) (b : By) : (usH H).set k true = usH (H.set k (some b)) := by rw [usH, usH, List.map_set]; rfl
theorem usH_del (H : List (Option By)) (k : Nat) : (usH H).set k false = usH (H.set k none) := by rw [usH, usH, List.map_set]; rfl
theorem usd_cnt : ∀ (U : List Bool) (n : Nat), n ≤ U.length → (usd U n).length = (U.take n).countP id
  | U, 0, _ => by simp [usd]
  | U, n + 1, h => by
    have hg : U.getD n false = U[n] := by rw [List.getD_eq_getElem?_getD, List.getElem?_eq_getElem (by omega)]; rfl
    rw [usd_succ, hg, List.take_succ_eq_append_getElem (by omega), List.countP_append, ← usd_cnt U n (by omega)]
    cases U[n] <;> simp
theorem usd_usH (H : List (Option By)) : (usd (usH H) (usH H).length).length = cntG H := by
  rw [usd_cnt _ _ (Nat.le_refl _), List.take_length, usH, List.countP_map, cntG]; rfl
theorem least_lt {U : List Bool} {j : Nat} (h : j < least U) : U.getD j false = true := by
  have hl : j < U.length := Nat.lt_of_lt_of_le h (least_le U)
  have := List.not_of_lt_findIdx h
  rw [List.getD_eq_getElem?_getD, List.getElem?_eq_getElem hl]
  simpa using this
theorem least_at (U : List Bool) : U.getD (least U) false = false := by
  by_cases h : least U < U.length
  · have := List.findIdx_getElem (w := h)
    rw [List.getD_eq_getElem?_getD, List.getElem?_eq_getElem h]
    show U[least U] = false
    unfold least
    simpa using this
  · exact getD_past U (by omega)
/-- n pages; what they are, what is synced. -/
structure PgInv (n : Nat) (S : List Sec) (C : List (Option Sec)) (H : List (Option By)) (Y : List (Option Value)) : Prop where
  sl : S.length = 2 * n
  cl : C.length = S.length
  hl : H.length = n
  yl : Y.length = n
  pg : ∀ (k : Nat) b, gAt H (k : Int) = some b → b.length = 500 ∧ pgAll (cur S C) k = pageL k b
  sy : ∀ (k : Nat) b, gAt H (k : Int) = some b → (gAt Y (k : Int)).isSome = true → C[2 * k]? = some none ∧ C[2 * k + 1]? = some none
  yv : ∀ z v, gAt Y z = some v → v = .int .i64 1
section
variable {n k : Nat} {S : List Sec} {C : List (Option Sec)} {H : List (Option By)} {Y : List (Option Value)} {b : By}
theorem gAt_lt {α : Type} {L : List (Option α)} {k : Nat} {b : α} (h : gAt L (k : Int) = some b) : k < L.length := by
  obtain ⟨i, hi, e, _⟩ := gAt_some h; omega
theorem PgInv.start (n : Nat) : PgInv n (List.replicate (2 * n) z256) (List.replicate (2 * n) none) (List.replicate n none) (List.replicate n none) :=
  ⟨by simp, by simp, by simp, by simp, fun k b h => (by rw [gAt_none] at h; cases h), fun k b h => (by rw [gAt_none] at h; cases h), fun z v h => (by rw [gAt_none] at h; cases h)⟩
theorem PgInv.read (h : PgInv n S C H Y) (hb : gAt H (k : Int) = some b) : readP (cur S C) (usH H) (k : Int) = (b, 0) := by
  obtain ⟨h1, h2⟩ := h.pg k b hb
  have := readP_of (U := usH H) (n := k) (b := b) (by rw [usH_get, hb]; rfl) (by omega) h2
  rw [this, bodyL_full h1]
theorem PgInv.new (h : PgInv n S C H Y) (hk : k < n) (hb : b.length ≤ 500) : PgInv n S (newC S C k (pageL k b)) (H.set k (some (bodyL b))) (Y.set k none) := by
  have h1 := h.sl
  have h2 := h.cl
  have h3 := h.hl
  have h4 := h.yl
  have hp := pageL_len k hb
  refine ⟨h.sl, by rw [newC_len]; exact h2, by rw [List.length_set]; exact h3, by rw [List.length_set]; exact h4, fun j c hc => ?_, fun j c hc hy => ?_, fun z v hv => ?_⟩
  · rw [gAt_set (by omega)] at hc
    rw [cur_newC h2 (by omega) hp]
    by_cases e : (j : Int) = (k : Int)
    · rw [if_pos e] at hc
      injection hc with hc
      subst hc
      obtain rfl : j = k := by omega
      rw [if_pos rfl, pageL_body _ hb]
      exact ⟨bodyL_len hb, rfl⟩
    · rw [if_neg e] at hc
      rw [if_neg (by omega)]
      exact h.pg j c hc
  · rw [gAt_set (by omega)] at hc hy
    by_cases e : (j : Int) = (k : Int)
    · rw [if_pos e] at hy; cases hy
    · rw [if_neg e] at hc hy
      have := h.sy j c hc hy
      rw [newC_eq (by omega) hp]
      rw [List.getElem?_set_ne (by omega), List.getElem?_set_ne (by omega), List.getElem?_set_ne (by omega), List.getElem?_set_ne (by omega)]
      exact this
  · rw [gAt_set (by omega)] at hv
    split at hv
    · cases hv
    · exact h.yv z v hv
theorem PgInv.del (h : PgInv n S C H Y) (hk : k < n) : PgInv n S C (H.set k none) Y := by
  have h3 := h.hl
  refine ⟨h.sl, h.cl, by rw [List.length_set]; exact h3, h.yl, fun j c hc => ?_, fun j c hc hy => ?_, h.yv⟩
  · rw [gAt_set (by omega)] at hc
    split at hc
    · cases hc
    · exact h.pg j c hc
  · rw [gAt_set (by omega)] at hc
    split at hc
    · cases hc
    · exact h.sy j c hc hy
theorem PgInv.sync (h : PgInv n S C H Y) : PgInv n (cur S C) (List.replicate S.length none) H Y := by
  refine ⟨by rw [cur_len]; exact h.sl, by rw [cur_len, List.length_replicate], h.hl, h.yl, fun j c hc => ?_, fun j c hc hy => ?_, h.yv⟩
  · rw [cur_none]; exact h.pg j c hc
  · have := gAt_lt hc
    have h1 := h.sl
    have h3 := h.hl
    rw [List.getElem?_replicate, List.getElem?_replicate, if_pos (by omega), if_pos (by omega)]
    exact ⟨rfl, rfl⟩
theorem PgInv.mark (h : PgInv n S C H Y) (hC : C = List.replicate S.length none) (hk : k < n) : PgInv n S C H (Y.set k (some (.int .i64 1))) := by
  have h1 := h.sl
  have h3 := h.hl
  have h4 := h.yl
  refine ⟨h.sl, h.cl, h.hl, by rw [List.length_set]; exact h4, h.pg, fun j c hc hy => ?_, fun z v hv => ?_⟩
  · have := gAt_lt hc
    subst hC
    rw [List.getElem?_replicate, List.getElem?_replicate, if_pos (by omega), if_pos (by omega)]
    exact ⟨rfl, rfl⟩
  · rw [gAt_set (by omega)] at hv
    split at hv
    · injection hv with hv; exact hv.symm
    · exact h.yv z v hv
end
theorem crash_getN : ∀ (S : List Sec) (C : List (Option Sec)) (kp : List Bool) (i : Nat), C[i]? = some none → (crash S C kp)[i]? = S[i]?
  | [], _, _, i, _ => by simp [crash]
  | s :: S, [], _, i, h => by simp at h
  | s :: S, none :: C, kp, i, h => by
    rw [crash]
    cases i with
    | zero => rfl
    | succ i => exact crash_getN S C kp i h
  | s :: S, some c :: C, kp, i, h => by
    cases i with
    | zero => simp at h
    | succ i =>
      rw [crash, List.getElem?_cons_succ, List.getElem?_cons_succ]
      exact crash_getN S C _ i h
theorem sAt_congr {X Y : List Sec} {i : Nat} (h : X[i]? = Y[i]?) : sAt X i = sAt Y i := by
  unfold sAt
  by_cases h1 : i < X.length
  · have h2 : i < Y.length := by
      rcases Nat.lt_or_ge i Y.length with h2 | h2
      · exact h2
      · rw [List.getElem?_eq_getElem h1, List.getElem?_eq_none h2] at h; cases h
    rw [List.getElem?_eq_getElem h1, List.getElem?_eq_getElem h2] at h
    injection h with h
    rw [dif_pos h1, dif_pos h2, h]
  · have h2 : ¬ i < Y.length := fun h2 => by
      rw [List.getElem?_eq_getElem h2, List.getElem?_eq_none (by omega)] at h; cases h
    rw [dif_neg h1, dif_neg h2]
theorem cur_getN {S : List Sec} {C : List (Option Sec)} {i : Nat} (hl : C.length = S.length) (h : C[i]? = some none) : (cur S C)[i]? = S[i]? := by
  obtain ⟨h1, h2⟩ := List.getElem?_eq_some_iff.1 h
  have h3 : i < S.length := by omega
  rw [List.getElem?_eq_getElem (by rw [cur_len]; exact h3), List.getElem?_eq_getElem h3, cur_get S C i h3 h1, h2]
  rfl
theorem PgInv.crashed {n : Nat} {S : List Sec} {C : List (Option Sec)} {H H1 : List (Option By)} {Y : List (Option Value)} (h : PgInv n S C H Y) (kp : List Bool) (hl : H1.length = n) (hs : ∀ (k : Nat) b, gAt H1 (k : Int) = some b → gAt H (k : Int) = some b ∧ (gAt Y (k : Int)).isSome = true) :
    PgInv n (crash S C kp) (List.replicate S.length none) H1 Y := by
  refine ⟨by rw [crash_len]; exact h.sl, by rw [crash_len, List.length_replicate], hl, h.yl, fun j c hc => ?_, fun j c hc hy => ?_, h.yv⟩
  · obtain ⟨h1, h2⟩ := hs j c hc
    obtain ⟨h3, h4⟩ := h.pg j c h1
    obtain ⟨h5, h6⟩ := h.sy j c h1 h2
    refine ⟨h3, ?_⟩
    rw [← h4, cur_none, pgAll, pgAll, sAt_congr ((crash_getN S C kp _ h5).trans (cur_getN h.cl h5).symm), sAt_congr ((crash_getN S C kp _ h6).trans (cur_getN h.cl h6).symm)]
  · have := gAt_lt hc
    have h1 := h.sl
    rw [List.getElem?_replicate, List.getElem?_replicate, if_pos (by omega), if_pos (by omega)]
    exact ⟨rfl, rfl⟩
/-- After a crash: what was synced is read. -/
theorem PgInv.reads {n k : Nat} {S : List Sec} {C : List (Option Sec)} {H : List (Option By)} {Y : List (Option Value)} {U : List Bool} {b : By} (h : PgInv n S C H Y) (kp : List Bool) (hb : gAt H (k : Int) = some b) (hy : (gAt Y (k : Int)).isSome = true) (hu : U.getD k false = true) : readP (crash S C kp) U (k : Int) = (b, 0) := by
  obtain ⟨h3, h4⟩ := h.pg k b hb
  obtain ⟨h5, h6⟩ := h.sy k b hb hy
  have e : pgAll (crash S C kp) k = pageL k b := by
    rw [← h4, pgAll, pgAll, sAt_congr ((crash_getN S C kp _ h5).trans (cur_getN h.cl h5).symm), sAt_congr ((crash_getN S C kp _ h6).trans (cur_getN h.cl h6).symm)]
  rw [readP_of hu (by omega) e, bodyL_full h3]
theorem readP_used {X : List Sec} {U : List Bool} {k : Nat} (hu : U.getD k false = true) : (readP X U (k : Int)).2 = 0 ∨ (readP X U (k : Int)).2 = 4 := by
  rw [readP, usdAt, Int.toNat_natCast, hu, decide_eq_true (by omega), Bool.and_self, if_pos rfl]
  split
  · exact .inl rfl
  · exact .inr rfl
end Go.Proofs.YtklijaahbahcoaaDoor
/-
  Plain laws of pages in use; headwaterkit.Pick.
-/
namespace Go.Proofs.YtklijaahbahcoaaDoor
set_option maxRecDepth 100000
open Go.RowKit
theorem C_PickM {n m r : Int} (w : World) (hr : pick n m = r) (wn : (Lit.int .i64 n).wf = true) (wm : (Lit.int .i64 m).wf = true) :
    CallsR Tryd.prog 8 [.int .i64 n, .int .i64 m] w fun v w' => v = .int .i64 r ∧ w' = w := by
  subst hr
  exact C_Pick n m wn wm w
theorem usd_mem {U : List Bool} {n k : Nat} : n ∈ usd U k ↔ n < k ∧ U.getD n false = true := by
  rw [usd, List.mem_filter, List.mem_range]
theorem markAll_get : ∀ (l : List Int) (V : List Bool), (∀ z ∈ l, 0 ≤ z ∧ z < (V.length : Int)) → ∀ j : Nat, (markAll V l).getD j false = (V.getD j false || decide ((j : Int) ∈ l))
  | [], V, _, j => by simp [markAll]
  | z :: l, V, h, j => by
    have h1 := h z (List.mem_cons_self ..)
    have e : markAll V (z :: l) = markAll (V.set z.toNat true) l := rfl
    rw [e, markAll_get l _ (fun x hx => by rw [List.length_set]; exact h x (List.mem_cons_of_mem _ hx)) j, getD_set _ _ _ _ (by omega)]
    by_cases e : j = z.toNat
    · rw [if_pos e, Bool.true_or, decide_eq_true (List.mem_cons.2 (.inl (by omega))), Bool.or_true]
    · rw [if_neg e]
      congr 1
      refine decide_eq_decide.2 ⟨fun h => List.mem_cons_of_mem _ h, fun h => ?_⟩
      rcases List.mem_cons.1 h with h | h
      · omega
      · exact h
theorem usdZ_all {U : List Bool} {n : Nat} (h : n = U.length) : openOk n (usdZ U U.length) = true := by
  subst h
  refine List.all_eq_true.2 (fun z hz => ?_)
  obtain ⟨k, hk, rfl⟩ := List.mem_map.1 hz
  have := (usd_mem.1 hk).1
  exact decide_eq_true ⟨Int.natCast_nonneg _, Int.ofNat_lt.2 this⟩
theorem markAll_usd {U : List Bool} {n : Nat} (h : n = U.length) : markAll (List.replicate n false) (usdZ U U.length) = U := by
  subst h
  have hb : ∀ z ∈ usdZ U U.length, 0 ≤ z ∧ z < ((List.replicate U.length false).length : Int) := fun z hz => by
    have := of_decide_eq_true (List.all_eq_true.1 (usdZ_all (U := U) rfl) z hz)
    rw [List.length_replicate]; exact this
  apply List.ext_getElem (by rw [markAll_len, List.length_replicate])
  intro j h1 h2
  have h3 := markAll_get _ _ hb j
  have e1 : (List.replicate U.length false).getD j false = false := by rw [List.getD_eq_getElem?_getD, List.getElem?_replicate]; split <;> rfl
  have e2 : U.getD j false = U[j] := by rw [List.getD_eq_getElem?_getD, List.getElem?_eq_getElem h2]; rfl
  have e3 : decide ((j : Int) ∈ usdZ U U.length) = U[j] := by
    rw [← e2]
    by_cases hj : U.getD j false = true
    · rw [hj]; exact decide_eq_true (List.mem_map.2 ⟨j, usd_mem.2 ⟨h2, hj⟩, rfl⟩)
    · rw [(by cases h : U.getD j false with | true => exact absurd h hj | false => rfl : U.getD j false = false)]
      refine decide_eq_false (fun h => ?_)
      obtain ⟨k, hk, e⟩ := List.mem_map.1 h
      have e : k = j := by exact Int.ofNat.inj e
      subst e
      exact hj (usd_mem.1 hk).2
  rw [e1, Bool.false_or, e3, List.getD_eq_getElem?_getD, List.getElem?_eq_getElem h1] at h3
  exact h3
theorem newP_len (S : List Sec) (C : List (Option Sec)) (U : List Bool) (b : By) : (newP S C U b).2.2.length = U.length := by
  unfold newP; split
  · rfl
  · split
    · rfl
    · exact List.length_set
theorem freeP_len (U : List Bool) (z : Int) : (freeP U z).2.length = U.length := by
  unfold freeP; split
  · exact List.length_set
  · rfl
theorem pgAll_le (X : List Sec) (n : Nat) : (pgAll X n).length ≤ 512 := by
  have h : ∀ j, (sAt X j).length ≤ 256 := fun j => by
    unfold sAt; split
    · rename_i h; exact Nat.le_of_eq X[j].2
    · simp
  rw [pgAll, List.length_append]
  have := h (2 * n)
  have := h (2 * n + 1)
  omega
theorem readP_len (X : List Sec) (U : List Bool) (z : Int) : (readP X U z).1.length ≤ 100000 := by
  unfold readP
  have := pgAll_le X z.toNat
  split
  · split
    · show (List.drop 12 _).length ≤ _
      rw [List.length_drop]; omega
    · simp
  · simp
end Go.Proofs.YtklijaahbahcoaaDoor
