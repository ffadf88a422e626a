/-
  Walks of package ops: members added and dropped.
-/
import Derived.Test.YtahkeoegbjopfaaGreatMg6
namespace Go.Proofs.YtahkeoegbjopfaaGreat
set_option maxRecDepth 100000
open Go.RowKit
theorem mem_val (u : Ky) (L : List Ky) : u.1 ∈ L.map Subtype.val ↔ u ∈ L := by
  rw [List.mem_map]
  exact ⟨fun ⟨a, ha, e⟩ => Subtype.ext e ▸ ha, fun h => ⟨u, h, rfl⟩⟩
theorem IncK.srt {L : List Ky} (h : IncK L) : Srt (L.map Subtype.val) := fun i hi h0 => by
  rw [List.length_map] at hi
  rw [List.getElem_map, List.getElem_map]
  exact h i hi h0
theorem low_lt {L : List Ky} {u : Ky} (hs : Srt (L.map Subtype.val)) (h : u.1 ∈ L.map Subtype.val) : low (L.map Subtype.val) u.1 < L.length := by
  obtain ⟨j, hj, e⟩ := List.getElem_of_mem h
  have hlow : low (L.map Subtype.val) u.1 = j := by
    refine low_eq (Nat.le_of_lt hj) (fun q hq hqj => ?_) (fun q hq hqj => ?_)
    · rw [← e]; exact cmpL_chain hs j q hj hqj
    · rw [← e]
      rcases Nat.lt_or_eq_of_le hqj with h1 | h1
      · have h2 := cmpL_chain hs q j hq h1
        have h3 := cmpL_neg (L.map Subtype.val)[q] (L.map Subtype.val)[j]
        omega
      · subst h1; rw [cmpL_self]; exact Int.le_refl _
  rw [List.length_map] at hj
  omega
theorem K_dropW {B g least : Nat} {u : Ky} {S : Stt} (w : World) (hS : StAt w B g S) (hl : S.2.1.length ≤ 100000) (hs : IncK S.2.1) (hle : least ≤ 100) :
    CallsR Tryz.prog 125 [.pointer (some ⟨g, 0 + 1, none⟩), .agg (B8 u.1).toArray, .int .i64 (least : Int)] w fun v w' => v = .bool (dropS S.2.1 u least).2 ∧ StAt w' B g (S.1, (dropS S.2.1 u least).1, S.2.2) ∧ StCh B g w w' := by
  have hS0 := hS
  obtain ⟨I, X, Y⟩ := S
  obtain ⟨A, ca, A2, c2, A3, c3, f0, f1, f2, f3, q7, q8⟩ := hS.ex
  dsimp only at f0 f1 f2 f3 hl hs ⊢
  have hsr := hs.srt
  unfold dropS
  refine callsR Tryz.func125 rfl rfl (by kernel_rfl) rfl ?_
  have hw := Below.refl w.heap.size w
  by_cases h : u.1 ∈ X.map Subtype.val
  · have hu : u ∈ X := (mem_val u X).1 h
    have hkl := low_lt hsr h
    by_cases h2 : X.length ≤ least
    · rw [if_pos (.inr h2)]
      refine rk_seq ?_
      refine rk_region ?_
      refine wl_boxg _ rfl (by rfl) ?_
      rintro g4 w4 f4 b4 i4 i4_1
      have s4 := b4.size
      replace hw := hw.trans (b4.mono hw.size)
      refine wl_p (fun _ => o_assign rfl) ?_
      refine wl_nil ?_
      refine rk_seq ?_
      refine rk_draw (id := 1) (none) [0, 1, 2, 0, 12, 16, 32, 32, 127, 511] [0, 1, 3, 0, 15, 31, 63, 63, 127, 511] 16 0 [(.p, 0), (.p, 1), (.r, 2), (.r, 3), (.l, 4), (.p, 5), (.p, 6), (.p, 7), (.p, 8), (.p, 9)] (by kernel_rfl) (by kernel_rfl) (by kernel_rfl) (by kernel_rfl) (by kernel_rfl) ?_
      replace hw := hw.drew
      replace f4 := f4.d
      refine wl_p (fun _ => o_move rfl) ?_
      refine wl_p (fun _ => o_nil rfl) ?_
      refine wl_r (o_loadbg Tryz.isAgg29 rfl (f0.u hw) (by rfl)) ?_
      refine wl_r (o_ldKyB rfl f4) ?_
      refine wl_call rfl (C_bsK _ (f2.u hw).to_RKs rfl (by omega) (by omega)) ?_
      rintro v14 w14 ⟨rfl, b14⟩
      simp only [drew_size] at b14
      have s14 := b14.size
      simp only [drew_size] at s14
      replace hw := hw.trans (b14.mono hw.size)
      replace f4 := f4.u b14
      refine wl_p (fun _ => o_move rfl) ?_
      refine wl_p (fun _ => o_ext20 rfl) ?_
      refine wl_p (fun _ => o_ext21 rfl) ?_
      refine wl_p (fun _ => o_assign rfl) ?_
      refine wl_p (fun _ => o_assign rfl) ?_
      refine wl_nild ?_
      refine rk_seq ?_
      refine rk_seq ?_
      refine rk_region ?_
      refine wl_p (fun _ => o_move rfl) ?_
      refine wl_p (fun _ => o_not rfl) ?_
      refine wl_p (fun _ => o_move rfl) ?_
      rw [decide_eq_true h]
      refine wl_p (fun _ => o_move rfl) ?_
      refine wl_p (fun _ => o_nil rfl) ?_
      refine wl_r (o_loadbg Tryz.isAgg29 rfl (f0.u hw) (by rfl)) ?_
      refine wl_p (fun _ => o_len (t := 29) Tryz.underlying29 rfl) ?_
      refine wl_p (fun _ => o_move rfl) ?_
      refine wl_p (fun _ => o_le rfl rfl) ?_
      refine wl_p (fun _ => o_pick_f rfl rfl) ?_
      refine wl_nil ?_
      refine rk_if rfl (fun h26 => ?_) (fun h26 => h26.elim (by omega))
      refine rk_seq ?_
      refine rk_region ?_
      refine wl_p (fun _ => o_assign rfl) ?_
      refine wl_nil ?_
      refine ret1 rfl rfl ?_
      exact ⟨rfl, hS0.same hw⟩
    · rw [if_neg (fun e => e.elim (fun e => e hu) h2)]
      refine rk_seq ?_
      refine rk_region ?_
      refine wl_boxg _ rfl (by rfl) ?_
      rintro g4 w4 f4 b4 i4 i4_1
      have s4 := b4.size
      replace hw := hw.trans (b4.mono hw.size)
      refine wl_p (fun _ => o_assign rfl) ?_
      refine wl_nil ?_
      refine rk_seq ?_
      refine rk_draw (id := 1) (none) [0, 1, 2, 0, 12, 16, 32, 32, 127, 511] [0, 1, 3, 0, 15, 31, 63, 63, 127, 511] 16 0 [(.p, 0), (.p, 1), (.r, 2), (.r, 3), (.l, 4), (.p, 5), (.p, 6), (.p, 7), (.p, 8), (.p, 9)] (by kernel_rfl) (by kernel_rfl) (by kernel_rfl) (by kernel_rfl) (by kernel_rfl) ?_
      replace hw := hw.drew
      replace f4 := f4.d
      refine wl_p (fun _ => o_move rfl) ?_
      refine wl_p (fun _ => o_nil rfl) ?_
      refine wl_r (o_loadbg Tryz.isAgg29 rfl (f0.u hw) (by rfl)) ?_
      refine wl_r (o_ldKyB rfl f4) ?_
      refine wl_call rfl (C_bsK _ (f2.u hw).to_RKs rfl (by omega) (by omega)) ?_
      rintro v14 w14 ⟨rfl, b14⟩
      simp only [drew_size] at b14
      have s14 := b14.size
      simp only [drew_size] at s14
      replace hw := hw.trans (b14.mono hw.size)
      replace f4 := f4.u b14
      refine wl_p (fun _ => o_move rfl) ?_
      refine wl_p (fun _ => o_ext20 rfl) ?_
      refine wl_p (fun _ => o_ext21 rfl) ?_
      refine wl_p (fun _ => o_assign rfl) ?_
      refine wl_p (fun _ => o_assign rfl) ?_
      refine wl_nild ?_
      refine rk_seq ?_
      refine rk_seq ?_
      refine rk_region ?_
      refine wl_p (fun _ => o_move rfl) ?_
      refine wl_p (fun _ => o_not rfl) ?_
      refine wl_p (fun _ => o_move rfl) ?_
      rw [decide_eq_true h]
      refine wl_p (fun _ => o_move rfl) ?_
      refine wl_p (fun _ => o_nil rfl) ?_
      refine wl_r (o_loadbg Tryz.isAgg29 rfl (f0.u hw) (by rfl)) ?_
      refine wl_p (fun _ => o_len (t := 29) Tryz.underlying29 rfl) ?_
      refine wl_p (fun _ => o_move rfl) ?_
      refine wl_p (fun _ => o_le rfl rfl) ?_
      refine wl_p (fun _ => o_pick_f rfl rfl) ?_
      refine wl_nil ?_
      refine rk_if rfl (fun h26 => absurd h26 (by omega)) (fun h26 => ?_)
      refine rk_skip ?_
      refine rk_seq ?_
      refine rk_region ?_
      refine wl_p (fun _ => o_move rfl) ?_
      refine wl_p (fun _ => o_move rfl) ?_
      refine wl_p (fun _ => o_nil rfl) ?_
      refine wl_r (o_loadbg Tryz.isAgg29 rfl (f0.u hw) (by rfl)) ?_
      refine wl_p (fun _ => o_move rfl) ?_
      refine wl_p (fun _ => o_move rfl) ?_
      refine wl_p (fun _ => o_add rfl rfl (by omega) (by omega)) ?_
      refine wl_call rfl (K_delK w14 (f2.u hw) rfl rfl rfl hl hkl (by have := hw.size; omega)) ?_
      rintro _ w34 ⟨rfl, f34, g34, b34⟩
      have f0b := (f0.u hw).y g34 (by decide)
      have f1b := (f1.u hw).y g34 (by decide)
      have fob := (f3.u hw).keepNe g34 (fun k hk e => q7 k e hk)
      have hcg : Chg g (g + 1) w34 w34 := Chg.refl
      have hst := f0b.at_
      have hws := hw.size
      have hgs := g34.size
      have hw14 := hw
      clear hw
      refine wl_p (fun _ => o_nil rfl) ?_
      refine wl_storeg1 Tryz.sizeOf29 rfl rfl (by rfl) f0b (by simp) ?_
      rintro w_1 f g_1 e
      have s := g_1.size
      replace hcg := hcg.trans (Chg.of_g1 g_1.g (by omega) (by omega))
      replace fob := fob.y g_1 (by decide)
      replace f1b := f1b.y g_1 (by decide)
      replace f34 := f34.y g_1 (by decide)
      clear f0b
      refine wl_nil ?_
      refine rk_seq ?_
      refine rk_region ?_
      refine wl_p (fun _ => o_assign rfl) ?_
      refine wl_nil ?_
      refine ret1 rfl rfl ?_
      have hcs := hcg.size
      exact ⟨rfl, ⟨A, ca, A2, c2, A3, c3, f, f1b.base (Nat.le_refl _) (by omega), f34.base (Nat.le_refl _) (by omega), fob.base (Nat.le_refl _) (by omega), q7, by omega⟩, ⟨w14, w34, none, blk A2, Grew.none_ hw14, g34, Grew.of_chg1 hcg hst, fun k hk => (by cases hk), fun k hk => (f2.rng k hk).1⟩⟩
  · rw [if_pos (.inl (fun e => h ((mem_val u X).2 e)))]
    refine rk_seq ?_
    refine rk_region ?_
    refine wl_boxg _ rfl (by rfl) ?_
    rintro g4 w4 f4 b4 i4 i4_1
    have s4 := b4.size
    replace hw := hw.trans (b4.mono hw.size)
    refine wl_p (fun _ => o_assign rfl) ?_
    refine wl_nil ?_
    refine rk_seq ?_
    refine rk_draw (id := 1) (none) [0, 1, 2, 0, 12, 16, 32, 32, 127, 511] [0, 1, 3, 0, 15, 31, 63, 63, 127, 511] 16 0 [(.p, 0), (.p, 1), (.r, 2), (.r, 3), (.l, 4), (.p, 5), (.p, 6), (.p, 7), (.p, 8), (.p, 9)] (by kernel_rfl) (by kernel_rfl) (by kernel_rfl) (by kernel_rfl) (by kernel_rfl) ?_
    replace hw := hw.drew
    replace f4 := f4.d
    refine wl_p (fun _ => o_move rfl) ?_
    refine wl_p (fun _ => o_nil rfl) ?_
    refine wl_r (o_loadbg Tryz.isAgg29 rfl (f0.u hw) (by rfl)) ?_
    refine wl_r (o_ldKyB rfl f4) ?_
    refine wl_call rfl (C_bsK _ (f2.u hw).to_RKs rfl (by omega) (by omega)) ?_
    rintro v14 w14 ⟨rfl, b14⟩
    simp only [drew_size] at b14
    have s14 := b14.size
    simp only [drew_size] at s14
    replace hw := hw.trans (b14.mono hw.size)
    replace f4 := f4.u b14
    refine wl_p (fun _ => o_move rfl) ?_
    refine wl_p (fun _ => o_ext20 rfl) ?_
    refine wl_p (fun _ => o_ext21 rfl) ?_
    refine wl_p (fun _ => o_assign rfl) ?_
    refine wl_p (fun _ => o_assign rfl) ?_
    refine wl_nild ?_
    refine rk_seq ?_
    refine rk_seq ?_
    refine rk_region ?_
    refine wl_p (fun _ => o_move rfl) ?_
    refine wl_p (fun _ => o_not rfl) ?_
    refine wl_p (fun _ => o_move rfl) ?_
    rw [decide_eq_false h]
    refine wl_off ?_
    refine wl_off ?_
    refine wl_off ?_
    refine wl_off ?_
    refine wl_off ?_
    refine wl_off ?_
    refine wl_p (fun _ => o_pick_t rfl rfl) ?_
    refine wl_nil ?_
    refine rk_true rfl ?_
    refine rk_seq ?_
    refine rk_region ?_
    refine wl_p (fun _ => o_assign rfl) ?_
    refine wl_nil ?_
    refine ret1 rfl rfl ?_
    exact ⟨rfl, hS0.same hw⟩
theorem K_addW {B g most : Nat} {u : Ky} {S : Stt} (w : World) (hS : StAt w B g S) (hl : S.2.1.length ≤ 100000) (hs : IncK S.2.1) (hle : most ≤ 100) :
    CallsR Tryz.prog 124 [.pointer (some ⟨g, 0 + 1, none⟩), .agg (B8 u.1).toArray, .int .i64 (most : Int)] w fun v w' => v = .bool (addS S.2.1 u most).2 ∧ StAt w' B g (S.1, (addS S.2.1 u most).1, S.2.2) ∧ StCh B g w w' := by
  have hS0 := hS
  obtain ⟨I, X, Y⟩ := S
  obtain ⟨A, ca, A2, c2, A3, c3, f0, f1, f2, f3, q7, q8⟩ := hS.ex
  dsimp only at f0 f1 f2 f3 hl hs ⊢
  have hsr := hs.srt
  unfold addS
  refine callsR Tryz.func124 rfl rfl (by kernel_rfl) rfl ?_
  have hw := Below.refl w.heap.size w
  by_cases h : u.1 ∈ X.map Subtype.val
  · rw [if_pos (.inl ((mem_val u X).1 h))]
    refine rk_seq ?_
    refine rk_region ?_
    refine wl_boxg _ rfl (by rfl) ?_
    rintro g4 w4 f4 b4 i4 i4_1
    have s4 := b4.size
    replace hw := hw.trans (b4.mono hw.size)
    refine wl_p (fun _ => o_assign rfl) ?_
    refine wl_nil ?_
    refine rk_seq ?_
    refine rk_draw (id := 1) (none) [0, 1, 2, 0, 12, 16, 32, 32, 127, 511] [0, 1, 3, 0, 15, 31, 63, 63, 127, 511] 16 0 [(.p, 0), (.p, 1), (.r, 2), (.r, 3), (.l, 4), (.p, 5), (.p, 6), (.p, 7), (.p, 8), (.p, 9)] (by kernel_rfl) (by kernel_rfl) (by kernel_rfl) (by kernel_rfl) (by kernel_rfl) ?_
    replace hw := hw.drew
    replace f4 := f4.d
    refine wl_p (fun _ => o_move rfl) ?_
    refine wl_p (fun _ => o_nil rfl) ?_
    refine wl_r (o_loadbg Tryz.isAgg29 rfl (f0.u hw) (by rfl)) ?_
    refine wl_r (o_ldKyB rfl f4) ?_
    refine wl_call rfl (C_bsK _ (f2.u hw).to_RKs rfl (by omega) (by omega)) ?_
    rintro v14 w14 ⟨rfl, b14⟩
    simp only [drew_size] at b14
    have s14 := b14.size
    simp only [drew_size] at s14
    replace hw := hw.trans (b14.mono hw.size)
    replace f4 := f4.u b14
    refine wl_p (fun _ => o_move rfl) ?_
    refine wl_p (fun _ => o_ext20 rfl) ?_
    refine wl_p (fun _ => o_ext21 rfl) ?_
    refine wl_p (fun _ => o_assign rfl) ?_
    refine wl_p (fun _ => o_assign rfl) ?_
    refine wl_nild ?_
    refine rk_seq ?_
    refine rk_seq ?_
    refine rk_region ?_
    refine wl_p (fun _ => o_move rfl) ?_
    refine wl_p (fun _ => o_move rfl) ?_
    refine wl_know 18 true rfl (decide_eq_true (by omega)) ?_
    refine wl_off ?_
    refine wl_off ?_
    refine wl_off ?_
    refine wl_off ?_
    refine wl_off ?_
    refine wl_off ?_
    refine wl_p (fun _ => o_pick_t rfl rfl) ?_
    refine wl_nil ?_
    refine rk_true rfl ?_
    refine rk_seq ?_
    refine rk_region ?_
    refine wl_p (fun _ => o_assign rfl) ?_
    refine wl_nil ?_
    rw [decide_eq_true h]
    refine ret1 rfl rfl ?_
    exact ⟨rfl, hS0.same hw⟩
  · have hu : u ∉ X := fun e => h ((mem_val u X).2 e)
    have hkl : low (X.map Subtype.val) u.1 ≤ X.length := by have := low_le (X.map Subtype.val) u.1; rwa [List.length_map] at this
    by_cases h2 : most ≤ X.length
    · rw [if_pos (.inr h2)]
      refine rk_seq ?_
      refine rk_region ?_
      refine wl_boxg _ rfl (by rfl) ?_
      rintro g4 w4 f4 b4 i4 i4_1
      have s4 := b4.size
      replace hw := hw.trans (b4.mono hw.size)
      refine wl_p (fun _ => o_assign rfl) ?_
      refine wl_nil ?_
      refine rk_seq ?_
      refine rk_draw (id := 1) (none) [0, 1, 2, 0, 12, 16, 32, 32, 127, 511] [0, 1, 3, 0, 15, 31, 63, 63, 127, 511] 16 0 [(.p, 0), (.p, 1), (.r, 2), (.r, 3), (.l, 4), (.p, 5), (.p, 6), (.p, 7), (.p, 8), (.p, 9)] (by kernel_rfl) (by kernel_rfl) (by kernel_rfl) (by kernel_rfl) (by kernel_rfl) ?_
      replace hw := hw.drew
      replace f4 := f4.d
      refine wl_p (fun _ => o_move rfl) ?_
      refine wl_p (fun _ => o_nil rfl) ?_
      refine wl_r (o_loadbg Tryz.isAgg29 rfl (f0.u hw) (by rfl)) ?_
      refine wl_r (o_ldKyB rfl f4) ?_
      refine wl_call rfl (C_bsK _ (f2.u hw).to_RKs rfl (by omega) (by omega)) ?_
      rintro v14 w14 ⟨rfl, b14⟩
      simp only [drew_size] at b14
      have s14 := b14.size
      simp only [drew_size] at s14
      replace hw := hw.trans (b14.mono hw.size)
      replace f4 := f4.u b14
      refine wl_p (fun _ => o_move rfl) ?_
      refine wl_p (fun _ => o_ext20 rfl) ?_
      refine wl_p (fun _ => o_ext21 rfl) ?_
      refine wl_p (fun _ => o_assign rfl) ?_
      refine wl_p (fun _ => o_assign rfl) ?_
      refine wl_nild ?_
      refine rk_seq ?_
      refine rk_seq ?_
      refine rk_region ?_
      refine wl_p (fun _ => o_move rfl) ?_
      refine wl_p (fun _ => o_move rfl) ?_
      refine wl_know 18 false rfl (decide_eq_false (by omega)) ?_
      refine wl_p (fun _ => o_move rfl) ?_
      refine wl_p (fun _ => o_nil rfl) ?_
      refine wl_r (o_loadbg Tryz.isAgg29 rfl (f0.u hw) (by rfl)) ?_
      refine wl_p (fun _ => o_len (t := 29) Tryz.underlying29 rfl) ?_
      refine wl_p (fun _ => o_move rfl) ?_
      refine wl_p (fun _ => o_ge rfl rfl) ?_
      refine wl_p (fun _ => o_pick_f rfl rfl) ?_
      refine wl_nil ?_
      refine rk_if rfl (fun h25 => ?_) (fun h25 => h25.elim (by omega))
      refine rk_seq ?_
      refine rk_region ?_
      refine wl_p (fun _ => o_assign rfl) ?_
      refine wl_nil ?_
      rw [decide_eq_false h]
      refine ret1 rfl rfl ?_
      exact ⟨rfl, hS0.same hw⟩
    · rw [if_neg (fun e => e.elim hu h2)]
      refine rk_seq ?_
      refine rk_region ?_
      refine wl_boxg _ rfl (by rfl) ?_
      rintro g4 w4 f4 b4 i4 i4_1
      have s4 := b4.size
      replace hw := hw.trans (b4.mono hw.size)
      refine wl_p (fun _ => o_assign rfl) ?_
      refine wl_nil ?_
      refine rk_seq ?_
      refine rk_draw (id := 1) (none) [0, 1, 2, 0, 12, 16, 32, 32, 127, 511] [0, 1, 3, 0, 15, 31, 63, 63, 127, 511] 16 0 [(.p, 0), (.p, 1), (.r, 2), (.r, 3), (.l, 4), (.p, 5), (.p, 6), (.p, 7), (.p, 8), (.p, 9)] (by kernel_rfl) (by kernel_rfl) (by kernel_rfl) (by kernel_rfl) (by kernel_rfl) ?_
      replace hw := hw.drew
      replace f4 := f4.d
      refine wl_p (fun _ => o_move rfl) ?_
      refine wl_p (fun _ => o_nil rfl) ?_
      refine wl_r (o_loadbg Tryz.isAgg29 rfl (f0.u hw) (by rfl)) ?_
      refine wl_r (o_ldKyB rfl f4) ?_
      refine wl_call rfl (C_bsK _ (f2.u hw).to_RKs rfl (by omega) (by omega)) ?_
      rintro v14 w14 ⟨rfl, b14⟩
      simp only [drew_size] at b14
      have s14 := b14.size
      simp only [drew_size] at s14
      replace hw := hw.trans (b14.mono hw.size)
      replace f4 := f4.u b14
      refine wl_p (fun _ => o_move rfl) ?_
      refine wl_p (fun _ => o_ext20 rfl) ?_
      refine wl_p (fun _ => o_ext21 rfl) ?_
      refine wl_p (fun _ => o_assign rfl) ?_
      refine wl_p (fun _ => o_assign rfl) ?_
      refine wl_nild ?_
      refine rk_seq ?_
      refine rk_seq ?_
      refine rk_region ?_
      refine wl_p (fun _ => o_move rfl) ?_
      refine wl_p (fun _ => o_move rfl) ?_
      refine wl_know 18 false rfl (decide_eq_false (by omega)) ?_
      refine wl_p (fun _ => o_move rfl) ?_
      refine wl_p (fun _ => o_nil rfl) ?_
      refine wl_r (o_loadbg Tryz.isAgg29 rfl (f0.u hw) (by rfl)) ?_
      refine wl_p (fun _ => o_len (t := 29) Tryz.underlying29 rfl) ?_
      refine wl_p (fun _ => o_move rfl) ?_
      refine wl_p (fun _ => o_ge rfl rfl) ?_
      refine wl_p (fun _ => o_pick_f rfl rfl) ?_
      refine wl_nil ?_
      refine rk_if rfl (fun h25 => absurd h25 (by omega)) (fun h25 => ?_)
      refine rk_skip ?_
      refine rk_seq ?_
      refine rk_draw (id := 4) (none) [0, 0, 2, 4, 0, 0, 32, 88, 255, 511] [0, 0, 2, 6, 0, 0, 32, 126, 255, 511] 704 64 [(.p, 0), (.p, 1), (.p, 2), (.s, 3), (.p, 4), (.r, 5), (.c, 6), (.l, 7), (.p, 8), (.l, 9)] (by kernel_rfl) (by kernel_rfl) (by kernel_rfl) (by kernel_rfl) (by kernel_rfl) ?_
      replace hw := hw.drew
      replace f4 := f4.d
      refine wl_p (fun _ => o_move rfl) ?_
      refine wl_p (fun _ => o_move rfl) ?_
      refine wl_p (fun _ => o_nil rfl) ?_
      refine wl_s (fun _ hk => (o_loadbg Tryz.isAgg29 rfl ((f0.u hw).u (below_of_grown_none hk)) (by rfl))) ?_
      refine wl_p (fun _ => o_move rfl) ?_
      refine wl_r (o_ldKyB rfl f4) ?_
      refine wl_litKs1 (by rfl) rfl (by rfl) ?_
      rintro A32 w32 f32 b32
      simp only [drew_size] at f32
      simp only [drew_size] at b32
      have qf32 := f32.cap
      have s32 := b32.size
      simp only [drew_size] at s32
      replace hw := hw.trans (b32.mono hw.size)
      replace f4 := f4.u b32
      rw [decide_eq_false h]
      refine wl_call rfl (K_insK w32 (f2.u hw) f32 (by have := hw.size; omega) rfl rfl hkl hl (by have := hw.size; omega)) ?_
      rintro _ w33 ⟨A33, c33, rfl, f33, g33, b33, t33⟩
      have f0b := (f0.u hw).y g33 (by decide)
      have f1b := (f1.u hw).y g33 (by decide)
      have fob := (f3.u hw).keepNe g33 (fun k hk e => q7 k e hk)
      have hcg : Chg g (g + 1) w33 w33 := Chg.refl
      have hst := f0b.at_
      have hws := hw.size
      have hgs := g33.size
      have hw14 := hw
      have q9 : ∀ k, blk A33 = some k → blk A3 ≠ some k := fun k hk e => by
        rcases t33 with t | t
        · rw [t] at hk; exact q7 k hk e
        · have h5 := t k hk
          have h6 := (f3.rng k e).2
          omega
      clear hw f32
      refine wl_p (fun _ => o_nil rfl) ?_
      refine wl_storeg1 Tryz.sizeOf29 rfl rfl (by rfl) f0b (by simp) ?_
      rintro w_1 f g_1 e
      have s := g_1.size
      replace hcg := hcg.trans (Chg.of_g1 g_1.g (by omega) (by omega))
      replace fob := fob.y g_1 (by decide)
      replace f1b := f1b.y g_1 (by decide)
      replace f33 := f33.y g_1 (by decide)
      clear f0b
      refine wl_nild ?_
      refine rk_seq ?_
      refine rk_region ?_
      refine wl_p (fun _ => o_assign rfl) ?_
      refine wl_nil ?_
      refine ret1 rfl rfl ?_
      have hcs := hcg.size
      exact ⟨rfl, ⟨A, ca, A33, c33, A3, c3, f, f1b.base (Nat.le_refl _) (by omega), f33.base (Nat.le_refl _) (by omega), fob.base (Nat.le_refl _) (by omega), q9, by omega⟩, ⟨w32, w33, none, blk A2, Grew.none_ hw14, g33, Grew.of_chg1 hcg hst, fun k hk => (by cases hk), fun k hk => (f2.rng k hk).1⟩⟩
theorem K_dropX {B g least : Nat} {u : Ky} {S : Stt} (w : World) (hS : StAt w B g S) (hl : S.2.2.length ≤ 100000) (hs : IncK S.2.2) (hle : least ≤ 100) :
    CallsR Tryz.prog 125 [.pointer (some ⟨g, 0 + 2, none⟩), .agg (B8 u.1).toArray, .int .i64 (least : Int)] w fun v w' => v = .bool (dropS S.2.2 u least).2 ∧ StAt w' B g (S.1, S.2.1, (dropS S.2.2 u least).1) ∧ StCh B g w w' := by
  have hS0 := hS
  obtain ⟨I, X, Y⟩ := S
  obtain ⟨A, ca, A2, c2, A3, c3, f0, f1, f2, f3, q7, q8⟩ := hS.ex
  dsimp only at f0 f1 f2 f3 hl hs ⊢
  have hsr := hs.srt
  unfold dropS
  refine callsR Tryz.func125 rfl rfl (by kernel_rfl) rfl ?_
  have hw := Below.refl w.heap.size w
  by_cases h : u.1 ∈ Y.map Subtype.val
  · have hu : u ∈ Y := (mem_val u Y).1 h
    have hkl := low_lt hsr h
    by_cases h2 : Y.length ≤ least
    · rw [if_pos (.inr h2)]
      refine rk_seq ?_
      refine rk_region ?_
      refine wl_boxg _ rfl (by rfl) ?_
      rintro g4 w4 f4 b4 i4 i4_1
      have s4 := b4.size
      replace hw := hw.trans (b4.mono hw.size)
      refine wl_p (fun _ => o_assign rfl) ?_
      refine wl_nil ?_
      refine rk_seq ?_
      refine rk_draw (id := 1) (none) [0, 1, 2, 0, 12, 16, 32, 32, 127, 511] [0, 1, 3, 0, 15, 31, 63, 63, 127, 511] 16 0 [(.p, 0), (.p, 1), (.r, 2), (.r, 3), (.l, 4), (.p, 5), (.p, 6), (.p, 7), (.p, 8), (.p, 9)] (by kernel_rfl) (by kernel_rfl) (by kernel_rfl) (by kernel_rfl) (by kernel_rfl) ?_
      replace hw := hw.drew
      replace f4 := f4.d
      refine wl_p (fun _ => o_move rfl) ?_
      refine wl_p (fun _ => o_nil rfl) ?_
      refine wl_r (o_loadbg Tryz.isAgg29 rfl (f0.u hw) (by rfl)) ?_
      refine wl_r (o_ldKyB rfl f4) ?_
      refine wl_call rfl (C_bsK _ (f3.u hw).to_RKs rfl (by omega) (by omega)) ?_
      rintro v14 w14 ⟨rfl, b14⟩
      simp only [drew_size] at b14
      have s14 := b14.size
      simp only [drew_size] at s14
      replace hw := hw.trans (b14.mono hw.size)
      replace f4 := f4.u b14
      refine wl_p (fun _ => o_move rfl) ?_
      refine wl_p (fun _ => o_ext20 rfl) ?_
      refine wl_p (fun _ => o_ext21 rfl) ?_
      refine wl_p (fun _ => o_assign rfl) ?_
      refine wl_p (fun _ => o_assign rfl) ?_
      refine wl_nild ?_
      refine rk_seq ?_
      refine rk_seq ?_
      refine rk_region ?_
      refine wl_p (fun _ => o_move rfl) ?_
      refine wl_p (fun _ => o_not rfl) ?_
      refine wl_p (fun _ => o_move rfl) ?_
      rw [decide_eq_true h]
      refine wl_p (fun _ => o_move rfl) ?_
      refine wl_p (fun _ => o_nil rfl) ?_
      refine wl_r (o_loadbg Tryz.isAgg29 rfl (f0.u hw) (by rfl)) ?_
      refine wl_p (fun _ => o_len (t := 29) Tryz.underlying29 rfl) ?_
      refine wl_p (fun _ => o_move rfl) ?_
      refine wl_p (fun _ => o_le rfl rfl) ?_
      refine wl_p (fun _ => o_pick_f rfl rfl) ?_
      refine wl_nil ?_
      refine rk_if rfl (fun h26 => ?_) (fun h26 => h26.elim (by omega))
      refine rk_seq ?_
      refine rk_region ?_
      refine wl_p (fun _ => o_assign rfl) ?_
      refine wl_nil ?_
      refine ret1 rfl rfl ?_
      exact ⟨rfl, hS0.same hw⟩
    · rw [if_neg (fun e => e.elim (fun e => e hu) h2)]
      refine rk_seq ?_
      refine rk_region ?_
      refine wl_boxg _ rfl (by rfl) ?_
      rintro g4 w4 f4 b4 i4 i4_1
      have s4 := b4.size
      replace hw := hw.trans (b4.mono hw.size)
      refine wl_p (fun _ => o_assign rfl) ?_
      refine wl_nil ?_
      refine rk_seq ?_
      refine rk_draw (id := 1) (none) [0, 1, 2, 0, 12, 16, 32, 32, 127, 511] [0, 1, 3, 0, 15, 31, 63, 63, 127, 511] 16 0 [(.p, 0), (.p, 1), (.r, 2), (.r, 3), (.l, 4), (.p, 5), (.p, 6), (.p, 7), (.p, 8), (.p, 9)] (by kernel_rfl) (by kernel_rfl) (by kernel_rfl) (by kernel_rfl) (by kernel_rfl) ?_
      replace hw := hw.drew
      replace f4 := f4.d
      refine wl_p (fun _ => o_move rfl) ?_
      refine wl_p (fun _ => o_nil rfl) ?_
      refine wl_r (o_loadbg Tryz.isAgg29 rfl (f0.u hw) (by rfl)) ?_
      refine wl_r (o_ldKyB rfl f4) ?_
      refine wl_call rfl (C_bsK _ (f3.u hw).to_RKs rfl (by omega) (by omega)) ?_
      rintro v14 w14 ⟨rfl, b14⟩
      simp only [drew_size] at b14
      have s14 := b14.size
      simp only [drew_size] at s14
      replace hw := hw.trans (b14.mono hw.size)
      replace f4 := f4.u b14
      refine wl_p (fun _ => o_move rfl) ?_
      refine wl_p (fun _ => o_ext20 rfl) ?_
      refine wl_p (fun _ => o_ext21 rfl) ?_
      refine wl_p (fun _ => o_assign rfl) ?_
      refine wl_p (fun _ => o_assign rfl) ?_
      refine wl_nild ?_
      refine rk_seq ?_
      refine rk_seq ?_
      refine rk_region ?_
      refine wl_p (fun _ => o_move rfl) ?_
      refine wl_p (fun _ => o_not rfl) ?_
      refine wl_p (fun _ => o_move rfl) ?_
      rw [decide_eq_true h]
      refine wl_p (fun _ => o_move rfl) ?_
      refine wl_p (fun _ => o_nil rfl) ?_
      refine wl_r (o_loadbg Tryz.isAgg29 rfl (f0.u hw) (by rfl)) ?_
      refine wl_p (fun _ => o_len (t := 29) Tryz.underlying29 rfl) ?_
      refine wl_p (fun _ => o_move rfl) ?_
      refine wl_p (fun _ => o_le rfl rfl) ?_
      refine wl_p (fun _ => o_pick_f rfl rfl) ?_
      refine wl_nil ?_
      refine rk_if rfl (fun h26 => absurd h26 (by omega)) (fun h26 => ?_)
      refine rk_skip ?_
      refine rk_seq ?_
      refine rk_region ?_
      refine wl_p (fun _ => o_move rfl) ?_
      refine wl_p (fun _ => o_move rfl) ?_
      refine wl_p (fun _ => o_nil rfl) ?_
      refine wl_r (o_loadbg Tryz.isAgg29 rfl (f0.u hw) (by rfl)) ?_
      refine wl_p (fun _ => o_move rfl) ?_
      refine wl_p (fun _ => o_move rfl) ?_
      refine wl_p (fun _ => o_add rfl rfl (by omega) (by omega)) ?_
      refine wl_call rfl (K_delK w14 (f3.u hw) rfl rfl rfl hl hkl (by have := hw.size; omega)) ?_
      rintro _ w34 ⟨rfl, f34, g34, b34⟩
      have f0b := (f0.u hw).y g34 (by decide)
      have f1b := (f1.u hw).y g34 (by decide)
      have fob := (f2.u hw).keepNe g34 q7
      have hcg : Chg g (g + 1) w34 w34 := Chg.refl
      have hst := f0b.at_
      have hws := hw.size
      have hgs := g34.size
      have hw14 := hw
      clear hw
      refine wl_p (fun _ => o_nil rfl) ?_
      refine wl_storeg1 Tryz.sizeOf29 rfl rfl (by rfl) f0b (by simp) ?_
      rintro w_1 f g_1 e
      have s := g_1.size
      replace hcg := hcg.trans (Chg.of_g1 g_1.g (by omega) (by omega))
      replace fob := fob.y g_1 (by decide)
      replace f1b := f1b.y g_1 (by decide)
      replace f34 := f34.y g_1 (by decide)
      clear f0b
      refine wl_nil ?_
      refine rk_seq ?_
      refine rk_region ?_
      refine wl_p (fun _ => o_assign rfl) ?_
      refine wl_nil ?_
      refine ret1 rfl rfl ?_
      have hcs := hcg.size
      exact ⟨rfl, ⟨A, ca, A2, c2, A3, c3, f, f1b.base (Nat.le_refl _) (by omega), fob.base (Nat.le_refl _) (by omega), f34.base (Nat.le_refl _) (by omega), q7, by omega⟩, ⟨w14, w34, none, blk A3, Grew.none_ hw14, g34, Grew.of_chg1 hcg hst, fun k hk => (by cases hk), fun k hk => (f3.rng k hk).1⟩⟩
  · rw [if_pos (.inl (fun e => h ((mem_val u Y).2 e)))]
    refine rk_seq ?_
    refine rk_region ?_
    refine wl_boxg _ rfl (by rfl) ?_
    rintro g4 w4 f4 b4 i4 i4_1
    have s4 := b4.size
    replace hw := hw.trans (b4.mono hw.size)
    refine wl_p (fun _ => o_assign rfl) ?_
    refine wl_nil ?_
    refine rk_seq ?_
    refine rk_draw (id := 1) (none) [0, 1, 2, 0, 12, 16, 32, 32, 127, 511] [0, 1, 3, 0, 15, 31, 63, 63, 127, 511] 16 0 [(.p, 0), (.p, 1), (.r, 2), (.r, 3), (.l, 4), (.p, 5), (.p, 6), (.p, 7), (.p, 8), (.p, 9)] (by kernel_rfl) (by kernel_rfl) (by kernel_rfl) (by kernel_rfl) (by kernel_rfl) ?_
    replace hw := hw.drew
    replace f4 := f4.d
    refine wl_p (fun _ => o_move rfl) ?_
    refine wl_p (fun _ => o_nil rfl) ?_
    refine wl_r (o_loadbg Tryz.isAgg29 rfl (f0.u hw) (by rfl)) ?_
    refine wl_r (o_ldKyB rfl f4) ?_
    refine wl_call rfl (C_bsK _ (f3.u hw).to_RKs rfl (by omega) (by omega)) ?_
    rintro v14 w14 ⟨rfl, b14⟩
    simp only [drew_size] at b14
    have s14 := b14.size
    simp only [drew_size] at s14
    replace hw := hw.trans (b14.mono hw.size)
    replace f4 := f4.u b14
    refine wl_p (fun _ => o_move rfl) ?_
    refine wl_p (fun _ => o_ext20 rfl) ?_
    refine wl_p (fun _ => o_ext21 rfl) ?_
    refine wl_p (fun _ => o_assign rfl) ?_
    refine wl_p (fun _ => o_assign rfl) ?_
    refine wl_nild ?_
    refine rk_seq ?_
    refine rk_seq ?_
    refine rk_region ?_
    refine wl_p (fun _ => o_move rfl) ?_
    refine wl_p (fun _ => o_not rfl) ?_
    refine wl_p (fun _ => o_move rfl) ?_
    rw [decide_eq_false h]
    refine wl_off ?_
    refine wl_off ?_
    refine wl_off ?_
    refine wl_off ?_
    refine wl_off ?_
    refine wl_off ?_
    refine wl_p (fun _ => o_pick_t rfl rfl) ?_
    refine wl_nil ?_
    refine rk_true rfl ?_
    refine rk_seq ?_
    refine rk_region ?_
    refine wl_p (fun _ => o_assign rfl) ?_
    refine wl_nil ?_
    refine ret1 rfl rfl ?_
    exact ⟨rfl, hS0.same hw⟩
theorem K_addX {B g most : Nat} {u : Ky} {S : Stt} (w : World) (hS : StAt w B g S) (hl : S.2.2.length ≤ 100000) (hs : IncK S.2.2) (hle : most ≤ 100) :
    CallsR Tryz.prog 124 [.pointer (some ⟨g, 0 + 2, none⟩), .agg (B8 u.1).toArray, .int .i64 (most : Int)] w fun v w' => v = .bool (addS S.2.2 u most).2 ∧ StAt w' B g (S.1, S.2.1, (addS S.2.2 u most).1) ∧ StCh B g w w' := by
  have hS0 := hS
  obtain ⟨I, X, Y⟩ := S
  obtain ⟨A, ca, A2, c2, A3, c3, f0, f1, f2, f3, q7, q8⟩ := hS.ex
  dsimp only at f0 f1 f2 f3 hl hs ⊢
  have hsr := hs.srt
  unfold addS
  refine callsR Tryz.func124 rfl rfl (by kernel_rfl) rfl ?_
  have hw := Below.refl w.heap.size w
  by_cases h : u.1 ∈ Y.map Subtype.val
  · rw [if_pos (.inl ((mem_val u Y).1 h))]
    refine rk_seq ?_
    refine rk_region ?_
    refine wl_boxg _ rfl (by rfl) ?_
    rintro g4 w4 f4 b4 i4 i4_1
    have s4 := b4.size
    replace hw := hw.trans (b4.mono hw.size)
    refine wl_p (fun _ => o_assign rfl) ?_
    refine wl_nil ?_
    refine rk_seq ?_
    refine rk_draw (id := 1) (none) [0, 1, 2, 0, 12, 16, 32, 32, 127, 511] [0, 1, 3, 0, 15, 31, 63, 63, 127, 511] 16 0 [(.p, 0), (.p, 1), (.r, 2), (.r, 3), (.l, 4), (.p, 5), (.p, 6), (.p, 7), (.p, 8), (.p, 9)] (by kernel_rfl) (by kernel_rfl) (by kernel_rfl) (by kernel_rfl) (by kernel_rfl) ?_
    replace hw := hw.drew
    replace f4 := f4.d
    refine wl_p (fun _ => o_move rfl) ?_
    refine wl_p (fun _ => o_nil rfl) ?_
    refine wl_r (o_loadbg Tryz.isAgg29 rfl (f0.u hw) (by rfl)) ?_
    refine wl_r (o_ldKyB rfl f4) ?_
    refine wl_call rfl (C_bsK _ (f3.u hw).to_RKs rfl (by omega) (by omega)) ?_
    rintro v14 w14 ⟨rfl, b14⟩
    simp only [drew_size] at b14
    have s14 := b14.size
    simp only [drew_size] at s14
    replace hw := hw.trans (b14.mono hw.size)
    replace f4 := f4.u b14
    refine wl_p (fun _ => o_move rfl) ?_
    refine wl_p (fun _ => o_ext20 rfl) ?_
    refine wl_p (fun _ => o_ext21 rfl) ?_
    refine wl_p (fun _ => o_assign rfl) ?_
    refine wl_p (fun _ => o_assign rfl) ?_
    refine wl_nild ?_
    refine rk_seq ?_
    refine rk_seq ?_
    refine rk_region ?_
    refine wl_p (fun _ => o_move rfl) ?_
    refine wl_p (fun _ => o_move rfl) ?_
    refine wl_know 18 true rfl (decide_eq_true (by omega)) ?_
    refine wl_off ?_
    refine wl_off ?_
    refine wl_off ?_
    refine wl_off ?_
    refine wl_off ?_
    refine wl_off ?_
    refine wl_p (fun _ => o_pick_t rfl rfl) ?_
    refine wl_nil ?_
    refine rk_true rfl ?_
    refine rk_seq ?_
    refine rk_region ?_
    refine wl_p (fun _ => o_assign rfl) ?_
    refine wl_nil ?_
    rw [decide_eq_true h]
    refine ret1 rfl rfl ?_
    exact ⟨rfl, hS0.same hw⟩
  · have hu : u ∉ Y := fun e => h ((mem_val u Y).2 e)
    have hkl : low (Y.map Subtype.val) u.1 ≤ Y.length := by have := low_le (Y.map Subtype.val) u.1; rwa [List.length_map] at this
    by_cases h2 : most ≤ Y.length
    · rw [if_pos (.inr h2)]
      refine rk_seq ?_
      refine rk_region ?_
      refine wl_boxg _ rfl (by rfl) ?_
      rintro g4 w4 f4 b4 i4 i4_1
      have s4 := b4.size
      replace hw := hw.trans (b4.mono hw.size)
      refine wl_p (fun _ => o_assign rfl) ?_
      refine wl_nil ?_
      refine rk_seq ?_
      refine rk_draw (id := 1) (none) [0, 1, 2, 0, 12, 16, 32, 32, 127, 511] [0, 1, 3, 0, 15, 31, 63, 63, 127, 511] 16 0 [(.p, 0), (.p, 1), (.r, 2), (.r, 3), (.l, 4), (.p, 5), (.p, 6), (.p, 7), (.p, 8), (.p, 9)] (by kernel_rfl) (by kernel_rfl) (by kernel_rfl) (by kernel_rfl) (by kernel_rfl) ?_
      replace hw := hw.drew
      replace f4 := f4.d
      refine wl_p (fun _ => o_move rfl) ?_
      refine wl_p (fun _ => o_nil rfl) ?_
      refine wl_r (o_loadbg Tryz.isAgg29 rfl (f0.u hw) (by rfl)) ?_
      refine wl_r (o_ldKyB rfl f4) ?_
      refine wl_call rfl (C_bsK _ (f3.u hw).to_RKs rfl (by omega) (by omega)) ?_
      rintro v14 w14 ⟨rfl, b14⟩
      simp only [drew_size] at b14
      have s14 := b14.size
      simp only [drew_size] at s14
      replace hw := hw.trans (b14.mono hw.size)
      replace f4 := f4.u b14
      refine wl_p (fun _ => o_move rfl) ?_
      refine wl_p (fun _ => o_ext20 rfl) ?_
      refine wl_p (fun _ => o_ext21 rfl) ?_
      refine wl_p (fun _ => o_assign rfl) ?_
      refine wl_p (fun _ => o_assign rfl) ?_
      refine wl_nild ?_
      refine rk_seq ?_
      refine rk_seq ?_
      refine rk_region ?_
      refine wl_p (fun _ => o_move rfl) ?_
      refine wl_p (fun _ => o_move rfl) ?_
      refine wl_know 18 false rfl (decide_eq_false (by omega)) ?_
      refine wl_p (fun _ => o_move rfl) ?_
      refine wl_p (fun _ => o_nil rfl) ?_
      refine wl_r (o_loadbg Tryz.isAgg29 rfl (f0.u hw) (by rfl)) ?_
      refine wl_p (fun _ => o_len (t := 29) Tryz.underlying29 rfl) ?_
      refine wl_p (fun _ => o_move rfl) ?_
      refine wl_p (fun _ => o_ge rfl rfl) ?_
      refine wl_p (fun _ => o_pick_f rfl rfl) ?_
      refine wl_nil ?_
      refine rk_if rfl (fun h25 => ?_) (fun h25 => h25.elim (by omega))
      refine rk_seq ?_
      refine rk_region ?_
      refine wl_p (fun _ => o_assign rfl) ?_
      refine wl_nil ?_
      rw [decide_eq_false h]
      refine ret1 rfl rfl ?_
      exact ⟨rfl, hS0.same hw⟩
    · rw [if_neg (fun e => e.elim hu h2)]
      refine rk_seq ?_
      refine rk_region ?_
      refine wl_boxg _ rfl (by rfl) ?_
      rintro g4 w4 f4 b4 i4 i4_1
      have s4 := b4.size
      replace hw := hw.trans (b4.mono hw.size)
      refine wl_p (fun _ => o_assign rfl) ?_
      refine wl_nil ?_
      refine rk_seq ?_
      refine rk_draw (id := 1) (none) [0, 1, 2, 0, 12, 16, 32, 32, 127, 511] [0, 1, 3, 0, 15, 31, 63, 63, 127, 511] 16 0 [(.p, 0), (.p, 1), (.r, 2), (.r, 3), (.l, 4), (.p, 5), (.p, 6), (.p, 7), (.p, 8), (.p, 9)] (by kernel_rfl) (by kernel_rfl) (by kernel_rfl) (by kernel_rfl) (by kernel_rfl) ?_
      replace hw := hw.drew
      replace f4 := f4.d
      refine wl_p (fun _ => o_move rfl) ?_
      refine wl_p (fun _ => o_nil rfl) ?_
      refine wl_r (o_loadbg Tryz.isAgg29 rfl (f0.u hw) (by rfl)) ?_
      refine wl_r (o_ldKyB rfl f4) ?_
      refine wl_call rfl (C_bsK _ (f3.u hw).to_RKs rfl (by omega) (by omega)) ?_
      rintro v14 w14 ⟨rfl, b14⟩
      simp only [drew_size] at b14
      have s14 := b14.size
      simp only [drew_size] at s14
      replace hw := hw.trans (b14.mono hw.size)
      replace f4 := f4.u b14
      refine wl_p (fun _ => o_move rfl) ?_
      refine wl_p (fun _ => o_ext20 rfl) ?_
      refine wl_p (fun _ => o_ext21 rfl) ?_
      refine wl_p (fun _ => o_assign rfl) ?_
      refine wl_p (fun _ => o_assign rfl) ?_
      refine wl_nild ?_
      refine rk_seq ?_
      refine rk_seq ?_
      refine rk_region ?_
      refine wl_p (fun _ => o_move rfl) ?_
      refine wl_p (fun _ => o_move rfl) ?_
      refine wl_know 18 false rfl (decide_eq_false (by omega)) ?_
      refine wl_p (fun _ => o_move rfl) ?_
      refine wl_p (fun _ => o_nil rfl) ?_
      refine wl_r (o_loadbg Tryz.isAgg29 rfl (f0.u hw) (by rfl)) ?_
      refine wl_p (fun _ => o_len (t := 29) Tryz.underlying29 rfl) ?_
      refine wl_p (fun _ => o_move rfl) ?_
      refine wl_p (fun _ => o_ge rfl rfl) ?_
      refine wl_p (fun _ => o_pick_f rfl rfl) ?_
      refine wl_nil ?_
      refine rk_if rfl (fun h25 => absurd h25 (by omega)) (fun h25 => ?_)
      refine rk_skip ?_
      refine rk_seq ?_
      refine rk_draw (id := 4) (none) [0, 0, 2, 4, 0, 0, 32, 88, 255, 511] [0, 0, 2, 6, 0, 0, 32, 126, 255, 511] 704 64 [(.p, 0), (.p, 1), (.p, 2), (.s, 3), (.p, 4), (.r, 5), (.c, 6), (.l, 7), (.p, 8), (.l, 9)] (by kernel_rfl) (by kernel_rfl) (by kernel_rfl) (by kernel_rfl) (by kernel_rfl) ?_
      replace hw := hw.drew
      replace f4 := f4.d
      refine wl_p (fun _ => o_move rfl) ?_
      refine wl_p (fun _ => o_move rfl) ?_
      refine wl_p (fun _ => o_nil rfl) ?_
      refine wl_s (fun _ hk => (o_loadbg Tryz.isAgg29 rfl ((f0.u hw).u (below_of_grown_none hk)) (by rfl))) ?_
      refine wl_p (fun _ => o_move rfl) ?_
      refine wl_r (o_ldKyB rfl f4) ?_
      refine wl_litKs1 (by rfl) rfl (by rfl) ?_
      rintro A32 w32 f32 b32
      simp only [drew_size] at f32
      simp only [drew_size] at b32
      have qf32 := f32.cap
      have s32 := b32.size
      simp only [drew_size] at s32
      replace hw := hw.trans (b32.mono hw.size)
      replace f4 := f4.u b32
      rw [decide_eq_false h]
      refine wl_call rfl (K_insK w32 (f3.u hw) f32 (by have := hw.size; omega) rfl rfl hkl hl (by have := hw.size; omega)) ?_
      rintro _ w33 ⟨A33, c33, rfl, f33, g33, b33, t33⟩
      have f0b := (f0.u hw).y g33 (by decide)
      have f1b := (f1.u hw).y g33 (by decide)
      have fob := (f2.u hw).keepNe g33 q7
      have hcg : Chg g (g + 1) w33 w33 := Chg.refl
      have hst := f0b.at_
      have hws := hw.size
      have hgs := g33.size
      have hw14 := hw
      have q9 : ∀ k, blk A2 = some k → blk A33 ≠ some k := fun k hk e => by
        rcases t33 with t | t
        · rw [t] at e; exact q7 k hk e
        · have h5 := t k e
          have h6 := (f2.rng k hk).2
          omega
      clear hw f32
      refine wl_p (fun _ => o_nil rfl) ?_
      refine wl_storeg1 Tryz.sizeOf29 rfl rfl (by rfl) f0b (by simp) ?_
      rintro w_1 f g_1 e
      have s := g_1.size
      replace hcg := hcg.trans (Chg.of_g1 g_1.g (by omega) (by omega))
      replace fob := fob.y g_1 (by decide)
      replace f1b := f1b.y g_1 (by decide)
      replace f33 := f33.y g_1 (by decide)
      clear f0b
      refine wl_nild ?_
      refine rk_seq ?_
      refine rk_region ?_
      refine wl_p (fun _ => o_assign rfl) ?_
      refine wl_nil ?_
      refine ret1 rfl rfl ?_
      have hcs := hcg.size
      exact ⟨rfl, ⟨A, ca, A2, c2, A33, c33, f, f1b.base (Nat.le_refl _) (by omega), fob.base (Nat.le_refl _) (by omega), f33.base (Nat.le_refl _) (by omega), q9, by omega⟩, ⟨w32, w33, none, blk A3, Grew.none_ hw14, g33, Grew.of_chg1 hcg hst, fun k hk => (by cases hk), fun k hk => (f3.rng k hk).1⟩⟩
end Go.Proofs.YtahkeoegbjopfaaGreat
/-
  Walks of package ops: a value put; what an op does to a state.
-/
namespace Go.Proofs.YtahkeoegbjopfaaGreat
set_option maxRecDepth 100000
open Go.RowKit
theorem part_set {xs : List Value} {m i r : Nat} {v : Value} (hr : r < m) : part (xs.set (i * m + r) v) m i = (part xs m i).set r v := by
  apply List.ext_getElem?
  intro q
  by_cases hq : q < m
  · rw [part_get hq, List.getElem?_set, List.getElem?_set, part_get hq]
    by_cases h : r = q
    · subst h
      rw [if_pos rfl, if_pos rfl]
      have hlp : (part xs m i).length = min m (xs.length - i * m) := by unfold part; rw [List.length_take, List.length_drop]
      by_cases h2 : i * m + r < xs.length
      · have h3 : r < (part xs m i).length := by omega
        simp [h2, h3]
      · have h3 : ¬ r < (part xs m i).length := by omega
        simp [h2, h3]
    · rw [if_neg (by omega), if_neg h]
  · have hl : ∀ ys : List Value, (part ys m i).length ≤ m := fun ys => by unfold part; rw [List.length_take]; omega
    rw [List.getElem?_eq_none (by have := hl (xs.set (i * m + r) v); omega), List.getElem?_eq_none (by rw [List.length_set]; have := hl xs; omega)]
theorem part_set_ne {xs : List Value} {m i j r : Nat} {v : Value} (hr : r < m) (hne : i ≠ j) : part (xs.set (j * m + r) v) m i = part xs m i := by
  apply List.ext_getElem?
  intro q
  by_cases hq : q < m
  · rw [part_get hq, part_get hq, List.getElem?_set, if_neg]
    intro e
    rcases Nat.lt_or_ge i j with h | h
    · have : (i + 1) * m ≤ j * m := Nat.mul_le_mul_right _ h
      rw [Nat.add_mul, Nat.one_mul] at this; omega
    · have : (j + 1) * m ≤ i * m := Nat.mul_le_mul_right _ (by omega)
      rw [Nat.add_mul, Nat.one_mul] at this; omega
  · have hl : ∀ ys : List Value, (part ys m i).length ≤ m := fun ys => by unfold part; rw [List.length_take]; omega
    rw [List.getElem?_eq_none (by have := hl (xs.set (j * m + r) v); omega), List.getElem?_eq_none (by have := hl xs; omega)]
theorem Pts.setV {w : World} {xs : List Value} {I : List (By × By)} {j d : Nat} {V : Option Addr} {q : By} (h : Pts gItem w xs I) (hj : j < I.length) (hV : RdT w V q) (h5 : q.length ≤ d) (h6 : d ≤ maxLen) : Pts gItem w (xs.set (j * 2 + 1) (.slice V q.length d)) (I.set j (I[j].1, q)) := by
  refine ⟨by rw [List.length_set, List.length_set]; exact h.n, fun i hi => ?_⟩
  rw [List.length_set] at hi
  show gItem.T w (part (xs.set (j * 2 + 1) (.slice V q.length d)) 2 i) _
  rw [List.getElem_set]
  by_cases e : j = i
  · subst e
    rw [if_pos rfl, part_set (by omega)]
    obtain ⟨c1, c2, e1, ⟨A, c, rfl, hA⟩, A2, c2', rfl, _⟩ := h.t j hj
    rw [show part xs 2 j = [.slice A I[j].1.length c] ++ [.slice A2 I[j].2.length c2'] from e1]
    exact ⟨[.slice A I[j].1.length c], [.slice V q.length d], rfl, ⟨A, c, rfl, hA⟩, V, d, rfl, hV, h5, h6⟩
  · rw [if_neg e, part_set_ne (by omega) (fun e2 => e e2.symm)]
    exact h.t i hi
section
variable {fn : Func} {F : Ending → World → Prop} {N : Nat} {ks : List K} {ops : Array Oper} {tg : Tags} {l : List Oper} {fr : Fr} {w : World} {ty : TypeId} {pos : String} {aft : Array Edge} {gd : Option (Nat × Bool)} {m d c j lo hi : Nat} {x y : Operand} {A V : Option Addr} {I : List (By × By)} {q : By}
theorem wl_stVal (hx : fr.ev x = some (.pointer (some (adr A (j * 2 + 1))))) (hown : OwnI w lo hi A c I) (hy : fr.ev y = some (.slice V m d)) (hm : m = q.length) (hV : RdT w V q) (h5 : q.length ≤ d) (h6 : d ≤ maxLen) (hj : j < I.length)
    (hk : ∀ w', OwnI w' lo hi A c (I.set j (I[j].1, q)) → Grew w w' 94 (blk A) → w'.heap.size = w.heap.size → WL Tryz.prog fn F N ks ops tg.tail l fr w') (ht : tg.loud = true := by rfl) (hg : onG ops fr gd = true := by rfl) (hq : tg.calm = false ∨ tg.rw.may (blk A) := by exact .inl rfl) :
    WL Tryz.prog fn F N ks ops tg (⟨none, .store 39 x y, ty, pos, aft, gd⟩ :: l) fr w := by
  subst hm
  have hty := hown.ty
  obtain ⟨xs, hrow, hp⟩ := OwnS.pts hown
  have hcm := row_max hrow
  obtain ⟨g, cur, rfl, g1, g2, hB, g3, g4, g5⟩ := hrow.blk_ (by omega)
  have g4' : cur.length = c * 2 := g4
  have ead : adr (some (⟨g, 0, none⟩ : Addr)) (j * 2 + 1) = ⟨g, j * 2 + 1, none⟩ := by simp [adr, add_plain]
  rw [ead] at hx
  obtain ⟨w', hr, hB', hgr, hsz⟩ := run_storeCells_blk (P := Tryz.prog) (o := j * 2 + 1) [.slice V q.length d] 0 cur w hB (fun v hv => by simp only [List.mem_singleton] at hv; subst hv; rfl) (by simp; omega)
  have gg : Grew w w' 94 (some g) := ⟨hgr, hty⟩
  refine wl_u (w' := w') (fun a ha op hop => ?_) (hk w' ?_ gg hsz) ht hg (hq.imp id (Rw.of_may hgr))
  · have hcs : (Value.slice V q.length d).cells = #[Value.slice V q.length d] := rfl
    simp [execOp, hop, ha.ev hx, ha.ev hy, Instr.storeAt, Instr.sureAddr, storeVar, hcs, Tryz.sizeOf39, hr]
  · have hpp := (hp.setV hj hV h5 h6).ty gg (by simp [gItem_tys])
    refine hpp.own ?_
    rw [List.length_set]
    have e1 : spl cur (j * 2 + 1 + 0) [.slice V q.length d] = cur.set (j * 2 + 1) (.slice V q.length d) := by
      rw [Nat.add_zero]
      apply List.ext_getElem?
      intro i
      rw [getElem_spl (by simp; omega), List.getElem?_set]
      by_cases h : j * 2 + 1 = i
      · subst h; simp [show j * 2 + 1 < cur.length by omega]
      · rw [if_neg h, if_neg (by simp; omega)]
    rw [e1] at hB'
    refine row_of_blk hB' g1 g2 (by rw [List.length_set, g4]) g3 hcm (by rw [List.length_set]; exact hp.n) ?_
    rw [← g5]
    show (cur.set (j * 2 + 1) _).take (I.length * 2) = (cur.take (I.length * 2)).set _ _
    rw [List.take_set]
end
set_option maxRecDepth 100000 in
theorem K_doPut {K V : Option Addr} {p q : By} {n c m d B g : Nat} {k : Int} {u : Ky} {S : Stt} (w : World) (hS : StAt w B g S) (hK : Rd w K p) (hV : Rd w V q) (hn : n = p.length) (hm : m = q.length) (hp : p.length ≤ 4000000) (hq : q.length ≤ 4000000) (hl : S.1.length ≤ 100000) (hL : LtI S.1) (hs : Srt (S.1.map Prod.fst)) :
    CallsR Tryz.prog 72 [.pointer (some ⟨g, 0, none⟩), .agg (opC k K n c V m d u).toArray] w fun v w' => v = .bool (putS S.1 p q).2 ∧ StAt w' B g ((putS S.1 p q).1, S.2) ∧ StCh B g w w' := by
  subst hn; subst hm
  have hS0 := hS
  obtain ⟨I, X, Y⟩ := S
  obtain ⟨A, ca, A2, c2, A3, c3, f0, f1, f2, f3, q7, q8⟩ := hS.ex
  dsimp only at f0 f1 f2 f3 hl hL hs ⊢
  unfold putS
  refine callsR Tryz.func72 rfl rfl (by kernel_rfl) rfl ?_
  have hw := Below.refl w.heap.size w
  by_cases h : p ∈ I.map Prod.fst
  · rw [if_pos h]
    obtain ⟨hk, e1⟩ := mem_low hs h
    have hA1 : A = some (A.getD ⟨0, 0, none⟩) := (OwnI.to_RI f1).some_ (by omega)
    refine rk_seq ?_
    refine rk_region ?_
    refine wl_boxg _ rfl (by rfl) ?_
    rintro g3 w3 f3_1 b3 i3 i3_1
    have s3 := b3.size
    replace hw := hw.trans (b3.mono hw.size)
    refine wl_p (fun _ => o_assign rfl) ?_
    refine wl_nil ?_
    refine rk_seq ?_
    refine rk_draw (id := 1) (none) [0, 1, 2, 4, 0, 16, 40, 64, 128, 128, 511, 2047] [0, 1, 3, 7, 0, 16, 63, 127, 255, 255, 511, 2047] 64 0 [(.p, 0), (.p, 1), (.p, 2), (.r, 3), (.p, 4), (.r, 5), (.l, 6), (.p, 7), (.p, 8), (.p, 9), (.p, 10), (.p, 11)] (by kernel_rfl) (by kernel_rfl) (by kernel_rfl) (by kernel_rfl) (by kernel_rfl) ?_
    replace hw := hw.drew
    replace f3_1 := f3_1.d
    refine wl_p (fun _ => o_move rfl) ?_
    refine wl_p (fun _ => o_nil rfl) ?_
    refine wl_p (fun _ => o_faddr (s := 31) (i := 0) (off := 0) Tryz.underlying31 rfl Tryz.sizeOf28 rfl rfl rfl) ?_
    refine wl_r (o_loadbg Tryz.isAgg28 rfl (f0.u hw) (by rfl)) ?_
    refine wl_p (fun _ => o_faddr (s := 54) (i := 1) (off := 1) Tryz.underlying54 rfl Tryz.sizeOf39 rfl rfl rfl) ?_
    refine wl_r (o_loadbg Tryz.isAgg39 rfl f3_1 (by rfl)) ?_
    refine wl_call rfl (C_find _ (f1.u hw).to_RI (hK.u hw) rfl rfl (by omega) (by omega) (by omega) (by omega)) ?_
    rintro v14 w14 ⟨rfl, b14⟩
    simp only [drew_size] at b14
    have s14 := b14.size
    simp only [drew_size] at s14
    replace hw := hw.trans (b14.mono hw.size)
    replace f3_1 := f3_1.u b14
    refine wl_p (fun _ => o_move rfl) ?_
    refine wl_p (fun _ => o_ext20 rfl) ?_
    refine wl_p (fun _ => o_ext21 rfl) ?_
    refine wl_p (fun _ => o_assign rfl) ?_
    refine wl_p (fun _ => o_assign rfl) ?_
    refine wl_nild ?_
    refine rk_seq ?_
    refine rk_seq ?_
    refine rk_region ?_
    refine wl_p (fun _ => o_move rfl) ?_
    refine wl_nil ?_
    refine rk_if rfl (fun h17 => ?_) (fun h17 => h17.elim (by omega))
    refine rk_seq ?_
    refine rk_draw (id := 3) (none) [0, 1, 2, 4, 0, 0, 32, 64, 255, 511, 767] [0, 1, 3, 7, 0, 0, 32, 96, 255, 511, 1023] 1152 128 [(.p, 0), (.p, 1), (.p, 2), (.s, 3), (.p, 4), (.p, 5), (.r, 6), (.c, 7), (.p, 8), (.p, 9), (.l, 10)] (by kernel_rfl) (by kernel_rfl) (by kernel_rfl) (by kernel_rfl) (by kernel_rfl) ?_
    replace hw := hw.drew
    replace f3_1 := f3_1.d
    refine wl_p (fun _ => o_move rfl) ?_
    refine wl_p (fun _ => o_nil rfl) ?_
    refine wl_p (fun _ => o_faddr (s := 31) (i := 0) (off := 0) Tryz.underlying31 rfl Tryz.sizeOf28 rfl rfl rfl) ?_
    refine wl_s (fun _ hk => (o_loadbg Tryz.isAgg28 rfl ((f0.u hw).u (below_of_grown_none hk)) (by rfl))) ?_
    refine wl_p (fun _ => o_move rfl) ?_
    refine wl_p (fun _ => o_faddr (s := 54) (i := 2) (off := 2) Tryz.underlying54 rfl Tryz.sizeOf39 rfl rfl rfl) ?_
    refine wl_r (o_loadbg Tryz.isAgg39 rfl f3_1 (by rfl)) ?_
    refine wl_call rfl (C_bClone _ (hV.u hw) rfl (by omega)) ?_ (hq := .inr fun _ _ h => grown_of_below h.choose_spec.choose_spec.2.2 _)
    rintro v25 w25 ⟨A25, ⟨c25, ⟨rfl, ⟨f25, b25⟩⟩⟩⟩
    simp only [drew_size] at f25
    simp only [drew_size] at b25
    have qf25 := f25.cap
    have s25 := b25.size
    simp only [drew_size] at s25
    replace hw := hw.trans (b25.mono hw.size)
    replace f3_1 := f3_1.u b25
    refine wl_p (fun _ => o_iaddrA (low (I.map Prod.fst) p) Tryz.underlying28 Tryz.sizeOf94 rfl rfl rfl hA1 hk) ?_
    refine wl_p (fun _ => (o_faddrR rfl Tryz.underlying94 (by rfl) Tryz.sizeOf39 (by rfl) (by rfl))) ?_
    refine wl_stVal (I := I) (q := q) rfl (f1.u hw) rfl rfl f25.to_RdT f25.cap (own_max f25) hk ?_
    intro w27 f27 g27 s27
    rw [e1] at f27
    have f0b := (f0.u hw).y g27 (by decide)
    have f2b := (f2.u hw).y g27 (by decide)
    have f3b := (f3.u hw).y g27 (by decide)
    have hws := hw.size
    have hwp := hw
    clear hw f25 f3_1
    refine wl_nild ?_
    refine rk_seq ?_
    refine rk_region ?_
    refine wl_p (fun _ => o_assign rfl) ?_
    refine wl_nil ?_
    refine ret1 rfl rfl ?_
    exact ⟨rfl, ⟨A, ca, A2, c2, A3, c3, by rw [List.length_set]; exact f0b, f27.base (Nat.le_refl _) (by omega), f2b.base (Nat.le_refl _) (by omega), f3b.base (Nat.le_refl _) (by omega), q7, by omega⟩, ⟨w27, w27, blk A, none, Grew.after hwp g27 f1.ty, Grew.none_ (Below.refl _ _), Grew.of_below (Below.refl _ _) f0b.at_, fun k hk => (f1.rng k hk).1, fun k hk => (by cases hk)⟩⟩
  · rw [if_neg h]
    have hkl : low (I.map Prod.fst) p ≤ I.length := by have := low_le (I.map Prod.fst) p; rwa [List.length_map] at this
    by_cases h2 : 1024 ≤ I.length
    · rw [if_pos h2]
      refine rk_seq ?_
      refine rk_region ?_
      refine wl_boxg _ rfl (by rfl) ?_
      rintro g3 w3 f3_1 b3 i3 i3_1
      have s3 := b3.size
      replace hw := hw.trans (b3.mono hw.size)
      refine wl_p (fun _ => o_assign rfl) ?_
      refine wl_nil ?_
      refine rk_seq ?_
      refine rk_draw (id := 1) (none) [0, 1, 2, 4, 0, 16, 40, 64, 128, 128, 511, 2047] [0, 1, 3, 7, 0, 16, 63, 127, 255, 255, 511, 2047] 64 0 [(.p, 0), (.p, 1), (.p, 2), (.r, 3), (.p, 4), (.r, 5), (.l, 6), (.p, 7), (.p, 8), (.p, 9), (.p, 10), (.p, 11)] (by kernel_rfl) (by kernel_rfl) (by kernel_rfl) (by kernel_rfl) (by kernel_rfl) ?_
      replace hw := hw.drew
      replace f3_1 := f3_1.d
      refine wl_p (fun _ => o_move rfl) ?_
      refine wl_p (fun _ => o_nil rfl) ?_
      refine wl_p (fun _ => o_faddr (s := 31) (i := 0) (off := 0) Tryz.underlying31 rfl Tryz.sizeOf28 rfl rfl rfl) ?_
      refine wl_r (o_loadbg Tryz.isAgg28 rfl (f0.u hw) (by rfl)) ?_
      refine wl_p (fun _ => o_faddr (s := 54) (i := 1) (off := 1) Tryz.underlying54 rfl Tryz.sizeOf39 rfl rfl rfl) ?_
      refine wl_r (o_loadbg Tryz.isAgg39 rfl f3_1 (by rfl)) ?_
      refine wl_call rfl (C_find _ (f1.u hw).to_RI (hK.u hw) rfl rfl (by omega) (by omega) (by omega) (by omega)) ?_
      rintro v14 w14 ⟨rfl, b14⟩
      simp only [drew_size] at b14
      have s14 := b14.size
      simp only [drew_size] at s14
      replace hw := hw.trans (b14.mono hw.size)
      replace f3_1 := f3_1.u b14
      refine wl_p (fun _ => o_move rfl) ?_
      refine wl_p (fun _ => o_ext20 rfl) ?_
      refine wl_p (fun _ => o_ext21 rfl) ?_
      refine wl_p (fun _ => o_assign rfl) ?_
      refine wl_p (fun _ => o_assign rfl) ?_
      refine wl_nild ?_
      refine rk_seq ?_
      refine rk_seq ?_
      refine rk_region ?_
      refine wl_p (fun _ => o_move rfl) ?_
      refine wl_nil ?_
      refine rk_if rfl (fun h17 => absurd h17 (by omega)) (fun h17 => ?_)
      refine rk_skip ?_
      refine rk_seq ?_
      refine rk_seq ?_
      refine rk_region ?_
      refine wl_p (fun _ => o_move rfl) ?_
      refine wl_p (fun _ => o_nil rfl) ?_
      refine wl_p (fun _ => o_faddr (s := 31) (i := 0) (off := 0) Tryz.underlying31 rfl Tryz.sizeOf28 rfl rfl rfl) ?_
      refine wl_r (o_loadbg Tryz.isAgg28 rfl (f0.u hw) (by rfl)) ?_
      refine wl_p (fun _ => o_len (t := 28) Tryz.underlying28 rfl) ?_
      refine wl_p (fun _ => o_ge rfl rfl) ?_
      refine wl_nil ?_
      refine rk_if rfl (fun h33 => ?_) (fun h33 => h33.elim (by omega))
      refine rk_seq ?_
      refine rk_region ?_
      refine wl_p (fun _ => o_assign rfl) ?_
      refine wl_nil ?_
      refine ret1 rfl rfl ?_
      exact ⟨rfl, hS0.same hw⟩
    · rw [if_neg h2]
      refine rk_seq ?_
      refine rk_region ?_
      refine wl_boxg _ rfl (by rfl) ?_
      rintro g3 w3 f3_1 b3 i3 i3_1
      have s3 := b3.size
      replace hw := hw.trans (b3.mono hw.size)
      refine wl_p (fun _ => o_assign rfl) ?_
      refine wl_nil ?_
      refine rk_seq ?_
      refine rk_draw (id := 1) (none) [0, 1, 2, 4, 0, 16, 40, 64, 128, 128, 511, 2047] [0, 1, 3, 7, 0, 16, 63, 127, 255, 255, 511, 2047] 64 0 [(.p, 0), (.p, 1), (.p, 2), (.r, 3), (.p, 4), (.r, 5), (.l, 6), (.p, 7), (.p, 8), (.p, 9), (.p, 10), (.p, 11)] (by kernel_rfl) (by kernel_rfl) (by kernel_rfl) (by kernel_rfl) (by kernel_rfl) ?_
      replace hw := hw.drew
      replace f3_1 := f3_1.d
      refine wl_p (fun _ => o_move rfl) ?_
      refine wl_p (fun _ => o_nil rfl) ?_
      refine wl_p (fun _ => o_faddr (s := 31) (i := 0) (off := 0) Tryz.underlying31 rfl Tryz.sizeOf28 rfl rfl rfl) ?_
      refine wl_r (o_loadbg Tryz.isAgg28 rfl (f0.u hw) (by rfl)) ?_
      refine wl_p (fun _ => o_faddr (s := 54) (i := 1) (off := 1) Tryz.underlying54 rfl Tryz.sizeOf39 rfl rfl rfl) ?_
      refine wl_r (o_loadbg Tryz.isAgg39 rfl f3_1 (by rfl)) ?_
      refine wl_call rfl (C_find _ (f1.u hw).to_RI (hK.u hw) rfl rfl (by omega) (by omega) (by omega) (by omega)) ?_
      rintro v14 w14 ⟨rfl, b14⟩
      simp only [drew_size] at b14
      have s14 := b14.size
      simp only [drew_size] at s14
      replace hw := hw.trans (b14.mono hw.size)
      replace f3_1 := f3_1.u b14
      refine wl_p (fun _ => o_move rfl) ?_
      refine wl_p (fun _ => o_ext20 rfl) ?_
      refine wl_p (fun _ => o_ext21 rfl) ?_
      refine wl_p (fun _ => o_assign rfl) ?_
      refine wl_p (fun _ => o_assign rfl) ?_
      refine wl_nild ?_
      refine rk_seq ?_
      refine rk_seq ?_
      refine rk_region ?_
      refine wl_p (fun _ => o_move rfl) ?_
      refine wl_nil ?_
      refine rk_if rfl (fun h17 => absurd h17 (by omega)) (fun h17 => ?_)
      refine rk_skip ?_
      refine rk_seq ?_
      refine rk_seq ?_
      refine rk_region ?_
      refine wl_p (fun _ => o_move rfl) ?_
      refine wl_p (fun _ => o_nil rfl) ?_
      refine wl_p (fun _ => o_faddr (s := 31) (i := 0) (off := 0) Tryz.underlying31 rfl Tryz.sizeOf28 rfl rfl rfl) ?_
      refine wl_r (o_loadbg Tryz.isAgg28 rfl (f0.u hw) (by rfl)) ?_
      refine wl_p (fun _ => o_len (t := 28) Tryz.underlying28 rfl) ?_
      refine wl_p (fun _ => o_ge rfl rfl) ?_
      refine wl_nil ?_
      refine rk_if rfl (fun h33 => absurd h33 (by omega)) (fun h33 => ?_)
      refine rk_skip ?_
      refine rk_seq ?_
      refine rk_drawo (id := 7) (none) [0, 0, 2, 4, 8, 0, 0, 64, 128, 0, 512, 1280, 2304, 4096, 10288, 32767, 65535, 98303] [0, 0, 2, 6, 14, 0, 0, 64, 192, 0, 512, 1984, 4032, 8128, 16382, 32767, 65535, 131071] 157952 10496 [0, 1, 2, 3, 4, 5, 6, 7, 9, 10, 8, 11, 12, 13, 14, 15, 16, 17] [(.p, 0), (.p, 1), (.p, 2), (.p, 3), (.s, 4), (.p, 5), (.p, 6), (.r, 7), (.p, 9), (.s, 10), (.c, 8), (.c, 11), (.p, 12), (.c, 13), (.l, 14), (.p, 15), (.p, 16), (.l, 17)] (by kernel_rfl) (by kernel_rfl) (by kernel_rfl) (by kernel_rfl) (by kernel_rfl) ?_
      dsimp only [inOrder, nthOp]
      replace hw := hw.drew
      replace f3_1 := f3_1.d
      refine wl_p (fun _ => o_move rfl) ?_
      refine wl_p (fun _ => o_move rfl) ?_
      refine wl_p (fun _ => o_nil rfl) ?_
      refine wl_p (fun _ => o_faddr (s := 31) (i := 0) (off := 0) Tryz.underlying31 rfl Tryz.sizeOf28 rfl rfl rfl) ?_
      refine wl_s (fun _ hk => (o_loadbg Tryz.isAgg28 rfl ((f0.u hw).u (below_of_grown_none hk)) (by rfl))) ?_
      refine wl_p (fun _ => o_move rfl) ?_
      refine wl_p (fun _ => o_faddr (s := 54) (i := 1) (off := 1) Tryz.underlying54 rfl Tryz.sizeOf39 rfl rfl rfl) ?_
      refine wl_r (o_loadbg Tryz.isAgg39 rfl f3_1 (by rfl)) ?_
      refine wl_p (fun _ => o_faddr (s := 54) (i := 2) (off := 2) Tryz.underlying54 rfl Tryz.sizeOf39 rfl rfl rfl) ?_
      refine wl_s (fun _ hk => (o_loadbg Tryz.isAgg39 rfl (f3_1.u (below_of_grown_none hk)) (by rfl))) ?_
      refine wl_call rfl (C_bClone _ (hK.u hw) rfl (by omega)) ?_ (hq := .inr fun _ _ h => grown_of_below h.choose_spec.choose_spec.2.2 _)
      rintro v42 w42 ⟨A42, ⟨c42, ⟨rfl, ⟨f42, b42⟩⟩⟩⟩
      simp only [drew_size] at f42
      simp only [drew_size] at b42
      have qf42 := f42.cap
      have s42 := b42.size
      simp only [drew_size] at s42
      replace hw := hw.trans (b42.mono hw.size)
      replace f3_1 := f3_1.u b42
      refine wl_call rfl (C_bClone _ (hV.u hw) rfl (by omega)) ?_ (hq := .inr fun _ _ h => grown_of_below h.choose_spec.choose_spec.2.2 _)
      rintro v45 w45 ⟨A45, ⟨c45, ⟨rfl, ⟨f45, b45⟩⟩⟩⟩
      have qf45 := f45.cap
      have s45 := b45.size
      replace hw := hw.trans (b45.mono hw.size)
      replace f3_1 := f3_1.u b45
      replace f42 := f42.u b45
      refine wl_p (fun _ => (o_buildg [_, _] Tryz.underlying94 Tryz.zeroValue94 (by rfl) (by rfl) rfl (by rfl) (by rfl) (fun _ => by kernel_rfl))) ?_
      have m1 := own_max f42
      have m2 := own_max f45
      refine wl_litItm (by rfl) rfl f42.to_RdT f45.to_RdT rfl rfl (by omega) (by omega) (by omega) (by omega) (by rfl) ?_
      rintro A47 w47 f47 b47
      have qf47 := f47.cap
      have s47 := b47.size
      replace hw := hw.trans (b47.mono hw.size)
      replace f42 := f42.u b47
      replace f3_1 := f3_1.u b47
      replace f45 := f45.u b47
      refine wl_call rfl (K_insI w47 (f1.u hw) f47 (by have := hw.size; omega) rfl rfl hkl hl (by have := hw.size; omega)) ?_
      rintro _ w48 ⟨A48, c48, rfl, f48, g48, b48, t48⟩
      have f0b := (f0.u hw).y g48 (by decide)
      have f2b := (f2.u hw).y g48 (by decide)
      have f3b := (f3.u hw).y g48 (by decide)
      have hcg : Chg g (g + 1) w48 w48 := Chg.refl
      have hst := f0b.at_
      have hws := hw.size
      have hgs := g48.size
      have hwp := hw
      clear hw f47 f42 f45 f3_1
      refine wl_p (fun _ => o_nil rfl) ?_
      refine wl_p (fun _ => o_faddr (s := 31) (i := 0) (off := 0) Tryz.underlying31 rfl Tryz.sizeOf28 rfl rfl rfl) ?_
      refine wl_storeg1 Tryz.sizeOf28 rfl rfl (by rfl) f0b (by simp) ?_
      rintro w_1 f g_1 e
      have s := g_1.size
      replace hcg := hcg.trans (Chg.of_g1 g_1.g (by omega) (by omega))
      replace f3b := f3b.y g_1 (by decide)
      replace f2b := f2b.y g_1 (by decide)
      replace f48 := f48.y g_1 (by decide)
      clear f0b
      refine wl_nild ?_
      refine rk_seq ?_
      refine rk_region ?_
      refine wl_p (fun _ => o_assign rfl) ?_
      refine wl_nil ?_
      refine ret1 rfl rfl ?_
      have hcs := hcg.size
      exact ⟨rfl, ⟨A48, c48, A2, c2, A3, c3, f, f48.base (Nat.le_refl _) (by omega), f2b.base (Nat.le_refl _) (by omega), f3b.base (Nat.le_refl _) (by omega), q7, by omega⟩, ⟨w48, w48, blk A, none, Grew.after hwp g48 f1.ty, Grew.none_ (Below.refl _ _), Grew.of_chg1 hcg hst, fun k hk => (f1.rng k hk).1, fun k hk => (by cases hk)⟩⟩
end Go.Proofs.YtahkeoegbjopfaaGreat
/-
  Walks of package ops: an op done to a state.
-/
namespace Go.Proofs.YtahkeoegbjopfaaGreat
set_option maxRecDepth 100000
open Go.RowKit
theorem Grew.after2 {w w1 w' : World} {e : TypeId} {r : Option Nat} (h : Below w.heap.size w w1) (k : Grew w1 w' e r) : ∃ r', Grew w w' e r' ∧ ∀ b, r' = some b → r = some b := by
  rcases r with _ | b
  · exact ⟨none, ⟨grownBy_trans (grown_of_below h _) k.g, fun b hb => (by cases hb)⟩, fun b hb => hb⟩
  · by_cases hb : b < w.heap.size
    · refine ⟨some b, ⟨grownBy_trans (grown_of_below h _) k.g, fun q hq => ?_⟩, fun q hq => hq⟩
      injection hq with hq
      subst hq
      exact (k.ty b rfl).keep (h.block b hb).symm
    · exact ⟨none, Grew.none_ (h.trans (k.below h.size (fun q hq => by injection hq with hq; omega))), fun q hq => (by cases hq)⟩
theorem StCh.after {w w1 w' : World} {B g : Nat} (h : StCh B g w1 w') (hb : Below w.heap.size w w1) : StCh B g w w' := by
  obtain ⟨x1, x2, r1, r2, g1, g2, g3, t1, t2⟩ := h.ex
  obtain ⟨r', k1, k2⟩ := Grew.after2 hb g1
  exact ⟨x1, x2, r', r2, k1, g2, g3, fun k hk => t1 k (k2 k hk), t2⟩
theorem K_doAddWriter {K V : Option Addr} {n c m d B g : Nat} {k : Int} {u : Ky} {S : Stt} (w : World) (hS : StAt w B g S) (hl : S.2.1.length ≤ 100000) (hs : IncK S.2.1) :
    CallsR Tryz.prog 80 [.pointer (some ⟨g, 0, none⟩), .agg (opC k K n c V m d u).toArray] w fun v w' => v = .bool (addS S.2.1 u 16).2 ∧ StAt w' B g (S.1, (addS S.2.1 u 16).1, S.2.2) ∧ StCh B g w w' := by
  obtain ⟨A, ca, A2, c2, A3, c3, f0, f1, f2, f3, q7, q8⟩ := hS.ex
  refine callsR Tryz.func80 rfl rfl (by kernel_rfl) rfl ?_
  have hw := Below.refl w.heap.size w
  refine rk_seq ?_
  refine rk_region ?_
  refine wl_boxg _ rfl (by rfl) ?_
  rintro g3 w3 f3_1 b3 i3 i3_1
  have s3 := b3.size
  replace hw := hw.trans (b3.mono hw.size)
  refine wl_p (fun _ => o_assign rfl) ?_
  refine wl_nil ?_
  refine rk_seq ?_
  refine rk_draw (id := 1) (none) [0, 1, 2, 0, 8, 20, 63] [0, 1, 3, 0, 8, 31, 63] 32 0 [(.p, 0), (.p, 1), (.p, 2), (.p, 3), (.r, 4), (.l, 5), (.p, 6)] (by kernel_rfl) (by kernel_rfl) (by kernel_rfl) (by kernel_rfl) (by kernel_rfl) ?_
  replace hw := hw.drew
  replace f3_1 := f3_1.d
  refine wl_p (fun _ => o_move rfl) ?_
  refine wl_p (fun _ => o_nil rfl) ?_
  refine wl_p (fun _ => o_faddr (s := 31) (i := 1) (off := 1) Tryz.underlying31 rfl Tryz.sizeOf29 rfl rfl rfl) ?_
  refine wl_p (fun _ => o_faddr (s := 54) (i := 3) (off := 3) Tryz.underlying54 rfl Tryz.sizeOf42 rfl rfl rfl) ?_
  refine wl_r (o_ldWho rfl f3_1) ?_
  have hS2 := (hS.same hw).1
  refine wl_call rfl (K_addW (most := 16) _ hS2 hl hs (by omega)) ?_
  rintro _ w10 ⟨rfl, h3, h4⟩
  refine wl_p (fun _ => o_assign rfl) ?_
  refine wl_nild ?_
  refine ret1 rfl rfl ?_
  exact ⟨rfl, h3, h4.after hw⟩
theorem K_doDropWriter {K V : Option Addr} {n c m d B g : Nat} {k : Int} {u : Ky} {S : Stt} (w : World) (hS : StAt w B g S) (hl : S.2.1.length ≤ 100000) (hs : IncK S.2.1) :
    CallsR Tryz.prog 81 [.pointer (some ⟨g, 0, none⟩), .agg (opC k K n c V m d u).toArray] w fun v w' => v = .bool (dropS S.2.1 u 0).2 ∧ StAt w' B g (S.1, (dropS S.2.1 u 0).1, S.2.2) ∧ StCh B g w w' := by
  obtain ⟨A, ca, A2, c2, A3, c3, f0, f1, f2, f3, q7, q8⟩ := hS.ex
  refine callsR Tryz.func81 rfl rfl (by kernel_rfl) rfl ?_
  have hw := Below.refl w.heap.size w
  refine rk_seq ?_
  refine rk_region ?_
  refine wl_boxg _ rfl (by rfl) ?_
  rintro g3 w3 f3_1 b3 i3 i3_1
  have s3 := b3.size
  replace hw := hw.trans (b3.mono hw.size)
  refine wl_p (fun _ => o_assign rfl) ?_
  refine wl_nil ?_
  refine rk_seq ?_
  refine rk_draw (id := 1) (none) [0, 1, 2, 0, 8, 20, 63] [0, 1, 3, 0, 8, 31, 63] 32 0 [(.p, 0), (.p, 1), (.p, 2), (.p, 3), (.r, 4), (.l, 5), (.p, 6)] (by kernel_rfl) (by kernel_rfl) (by kernel_rfl) (by kernel_rfl) (by kernel_rfl) ?_
  replace hw := hw.drew
  replace f3_1 := f3_1.d
  refine wl_p (fun _ => o_move rfl) ?_
  refine wl_p (fun _ => o_nil rfl) ?_
  refine wl_p (fun _ => o_faddr (s := 31) (i := 1) (off := 1) Tryz.underlying31 rfl Tryz.sizeOf29 rfl rfl rfl) ?_
  refine wl_p (fun _ => o_faddr (s := 54) (i := 3) (off := 3) Tryz.underlying54 rfl Tryz.sizeOf42 rfl rfl rfl) ?_
  refine wl_r (o_ldWho rfl f3_1) ?_
  have hS2 := (hS.same hw).1
  refine wl_call rfl (K_dropW (least := 0) _ hS2 hl hs (by omega)) ?_
  rintro _ w10 ⟨rfl, h3, h4⟩
  refine wl_p (fun _ => o_assign rfl) ?_
  refine wl_nild ?_
  refine ret1 rfl rfl ?_
  exact ⟨rfl, h3, h4.after hw⟩
theorem K_doAddIndexer {K V : Option Addr} {n c m d B g : Nat} {k : Int} {u : Ky} {S : Stt} (w : World) (hS : StAt w B g S) (hl : S.2.2.length ≤ 100000) (hs : IncK S.2.2) :
    CallsR Tryz.prog 82 [.pointer (some ⟨g, 0, none⟩), .agg (opC k K n c V m d u).toArray] w fun v w' => v = .bool (addS S.2.2 u 16).2 ∧ StAt w' B g (S.1, S.2.1, (addS S.2.2 u 16).1) ∧ StCh B g w w' := by
  obtain ⟨A, ca, A2, c2, A3, c3, f0, f1, f2, f3, q7, q8⟩ := hS.ex
  refine callsR Tryz.func82 rfl rfl (by kernel_rfl) rfl ?_
  have hw := Below.refl w.heap.size w
  refine rk_seq ?_
  refine rk_region ?_
  refine wl_boxg _ rfl (by rfl) ?_
  rintro g3 w3 f3_1 b3 i3 i3_1
  have s3 := b3.size
  replace hw := hw.trans (b3.mono hw.size)
  refine wl_p (fun _ => o_assign rfl) ?_
  refine wl_nil ?_
  refine rk_seq ?_
  refine rk_draw (id := 1) (none) [0, 1, 2, 0, 8, 20, 63] [0, 1, 3, 0, 8, 31, 63] 32 0 [(.p, 0), (.p, 1), (.p, 2), (.p, 3), (.r, 4), (.l, 5), (.p, 6)] (by kernel_rfl) (by kernel_rfl) (by kernel_rfl) (by kernel_rfl) (by kernel_rfl) ?_
  replace hw := hw.drew
  replace f3_1 := f3_1.d
  refine wl_p (fun _ => o_move rfl) ?_
  refine wl_p (fun _ => o_nil rfl) ?_
  refine wl_p (fun _ => o_faddr (s := 31) (i := 2) (off := 2) Tryz.underlying31 rfl Tryz.sizeOf29 rfl rfl rfl) ?_
  refine wl_p (fun _ => o_faddr (s := 54) (i := 3) (off := 3) Tryz.underlying54 rfl Tryz.sizeOf42 rfl rfl rfl) ?_
  refine wl_r (o_ldWho rfl f3_1) ?_
  have hS2 := (hS.same hw).1
  refine wl_call rfl (K_addX (most := 16) _ hS2 hl hs (by omega)) ?_
  rintro _ w10 ⟨rfl, h3, h4⟩
  refine wl_p (fun _ => o_assign rfl) ?_
  refine wl_nild ?_
  refine ret1 rfl rfl ?_
  exact ⟨rfl, h3, h4.after hw⟩
theorem K_doDropIndexer {K V : Option Addr} {n c m d B g : Nat} {k : Int} {u : Ky} {S : Stt} (w : World) (hS : StAt w B g S) (hl : S.2.2.length ≤ 100000) (hs : IncK S.2.2) :
    CallsR Tryz.prog 83 [.pointer (some ⟨g, 0, none⟩), .agg (opC k K n c V m d u).toArray] w fun v w' => v = .bool (dropS S.2.2 u 1).2 ∧ StAt w' B g (S.1, S.2.1, (dropS S.2.2 u 1).1) ∧ StCh B g w w' := by
  obtain ⟨A, ca, A2, c2, A3, c3, f0, f1, f2, f3, q7, q8⟩ := hS.ex
  refine callsR Tryz.func83 rfl rfl (by kernel_rfl) rfl ?_
  have hw := Below.refl w.heap.size w
  refine rk_seq ?_
  refine rk_region ?_
  refine wl_boxg _ rfl (by rfl) ?_
  rintro g3 w3 f3_1 b3 i3 i3_1
  have s3 := b3.size
  replace hw := hw.trans (b3.mono hw.size)
  refine wl_p (fun _ => o_assign rfl) ?_
  refine wl_nil ?_
  refine rk_seq ?_
  refine rk_draw (id := 1) (none) [0, 1, 2, 0, 8, 20, 63] [0, 1, 3, 0, 8, 31, 63] 32 0 [(.p, 0), (.p, 1), (.p, 2), (.p, 3), (.r, 4), (.l, 5), (.p, 6)] (by kernel_rfl) (by kernel_rfl) (by kernel_rfl) (by kernel_rfl) (by kernel_rfl) ?_
  replace hw := hw.drew
  replace f3_1 := f3_1.d
  refine wl_p (fun _ => o_move rfl) ?_
  refine wl_p (fun _ => o_nil rfl) ?_
  refine wl_p (fun _ => o_faddr (s := 31) (i := 2) (off := 2) Tryz.underlying31 rfl Tryz.sizeOf29 rfl rfl rfl) ?_
  refine wl_p (fun _ => o_faddr (s := 54) (i := 3) (off := 3) Tryz.underlying54 rfl Tryz.sizeOf42 rfl rfl rfl) ?_
  refine wl_r (o_ldWho rfl f3_1) ?_
  have hS2 := (hS.same hw).1
  refine wl_call rfl (K_dropX (least := 1) _ hS2 hl hs (by omega)) ?_
  rintro _ w10 ⟨rfl, h3, h4⟩
  refine wl_p (fun _ => o_assign rfl) ?_
  refine wl_nild ?_
  refine ret1 rfl rfl ?_
  exact ⟨rfl, h3, h4.after hw⟩
/-- A state whose parts are as a valid one's. -/
structure StOk (S : Stt) : Prop where
  i : OkI S.1
  x : IncK S.2.1
  y : IncK S.2.2
  li : S.1.length ≤ 100000
  lx : S.2.1.length ≤ 100000
  ly : S.2.2.length ≤ 100000
theorem OkI.lt {I : List (By × By)} (h : OkI I) : LtI I := fun x hx => by
  obtain ⟨i, hi, rfl⟩ := List.getElem_of_mem hx
  have := (h i hi).1
  omega
/-- Any of them. -/
theorem sh4_do {k kk : Int} {gf pf rf df : Nat} (h : Sh4 k gf pf rf df) {K V : Option Addr} {p q : By} {n c m d B g : Nat} {u : Ky} {S : Stt} (w : World) (hS : StAt w B g S) (ho : StOk S) (hK : Rd w K p) (hV : Rd w V q) (hn : n = p.length) (hm : m = q.length) (hp : p.length ≤ 4000000) (hq : q.length ≤ 4000000) :
    CallsR Tryz.prog df [.pointer (some ⟨g, 0, none⟩), .agg (opC kk K n c V m d u).toArray] w fun v w' => v = .bool (doS k S p q u).2 ∧ StAt w' B g (doS k S p q u).1 ∧ StCh B g w w' := by
  rcases h with ⟨rfl, _, _, _, rfl⟩ | ⟨rfl, _, _, _, rfl⟩ | ⟨rfl, _, _, _, rfl⟩ | ⟨rfl, _, _, _, rfl⟩ | ⟨rfl, _, _, _, rfl⟩ | ⟨rfl, _, _, _, rfl⟩
  · exact K_doPut w hS hK hV hn hm hp hq ho.li ho.i.lt ho.i.srt
  · exact K_doDelete w hS hK hn hp ho.li ho.i.lt ho.i.srt
  · exact K_doAddWriter w hS ho.lx ho.x
  · exact K_doDropWriter w hS ho.lx ho.x
  · exact K_doAddIndexer w hS ho.ly ho.y
  · exact K_doDropIndexer w hS ho.ly ho.y
/-- May a writer do an op? -/
def mayS (S : Stt) (wr : Ky) (k : Int) (n m : Nat) (u : Ky) : Prop := okOp k n m u = true ∧ wr ∈ S.2.1 ∧ ((k ≠ 1 ∧ k ≠ 2) → wr ∈ S.2.2)
instance (S : Stt) (wr : Ky) (k : Int) (n m : Nat) (u : Ky) : Decidable (mayS S wr k n m u) := by unfold mayS; infer_instance
/-- An op of a writer, done to a valid state. -/
def stS (S : Stt) (wr : Ky) (o : Opn) : Stt × Bool := if mayS S wr o.1 o.2.1.length o.2.2.1.length o.2.2.2 then doS o.1 S o.2.1 o.2.2.1 o.2.2.2 else (S, false)
theorem K_step {K V : Option Addr} {p q : By} {n c m d B g : Nat} {k : Int} {u wr : Ky} {S : Stt} (w : World) (hS : StAt w B g S) (ho : StOk S) (hK : Rd w K p) (hV : Rd w V q) (hn : n = p.length) (hm : m = q.length) (hp : p.length ≤ 4000000) (hq : q.length ≤ 4000000) :
    CallsR Tryz.prog 37 [.pointer (some ⟨g, 0, none⟩), .agg (B8 wr.1).toArray, .agg (opC k K n c V m d u).toArray] w fun v w' => v = .bool (stS S wr (k, p, q, u)).2 ∧ StAt w' B g (stS S wr (k, p, q, u)).1 ∧ StCh B g w w' := by
  subst hn; subst hm
  obtain ⟨A, ca, A2, c2, A3, c3, f0, f1, f2, f3, q7, q8⟩ := hS.ex
  have hlx := ho.lx
  have hly := ho.ly
  unfold stS
  dsimp only
  refine callsR Tryz.func37 rfl rfl (by kernel_rfl) rfl ?_
  have hw := Below.refl w.heap.size w
  by_cases hk : 1 ≤ k ∧ k ≤ 6
  · obtain ⟨hk1, hk2⟩ := hk
    refine rk_seq ?_
    refine rk_region ?_
    refine wl_boxg _ rfl (by rfl) ?_
    rintro g4 w4 f4 b4 i4 i4_1
    have s4 := b4.size
    replace hw := hw.trans (b4.mono hw.size)
    refine wl_boxg _ rfl (by rfl) ?_
    rintro g5 w5 f5 b5 i5 i5_1
    have s5 := b5.size
    replace hw := hw.trans (b5.mono hw.size)
    replace f4 := f4.u b5
    refine wl_p (fun _ => o_assign rfl) ?_
    refine wl_nil ?_
    refine rk_seq ?_
    refine rk_region ?_
    refine wl_p (fun _ => o_faddr (s := 54) (i := 0) (off := 0) Tryz.underlying54 rfl Tryz.sizeOf3 rfl rfl rfl) ?_
    refine wl_r (o_loadbg Tryz.isAgg3 rfl f5 (by rfl)) ?_
    refine wl_call rfl (C_formOk _ (by omega) (by omega)) ?_
    rintro v12 w12 ⟨gf12, ⟨pf12, ⟨rf12, ⟨df12, ⟨rfl, ⟨i12, b12⟩⟩⟩⟩⟩⟩
    have s12 := b12.size
    replace hw := hw.trans (b12.mono hw.size)
    replace f4 := f4.u b12
    replace f5 := f5.u b12
    refine wl_p (fun _ => o_move rfl) ?_
    refine wl_p (fun _ => o_ext20 rfl) ?_
    refine wl_p (fun _ => o_ext21 rfl) ?_
    refine wl_allocg [_, _, _, _] Tryz.zeroValue89 (by rfl) ?_
    rintro g7 w7 f7 b7 i7 i7_1
    have s7 := b7.size
    replace hw := hw.trans (b7.mono hw.size)
    replace f5 := f5.u b7
    replace f4 := f4.u b7
    refine wl_storega Tryz.sizeOf89 rfl rfl (by rfl) (oneCell_of (by rfl)) f7 (by rfl) ?_
    rintro w_1 f g_1 e
    have s := g_1.size
    replace hw := hw.trans (below_of_grownBy g_1.g hw.size (by omega))
    replace f4 := f4.k g_1.g (ap_some (by omega))
    replace f5 := f5.k g_1.g (ap_some (by omega))
    clear f7
    refine wl_p (fun _ => o_assign rfl) ?_
    refine wl_nil ?_
    refine rk_seq ?_
    refine rk_seq ?_
    refine rk_draw (id := 2) (none) [0, 1, 2, 4, 12, 4, 52, 68, 132, 320, 512, 1536, 2560, 4608, 512, 25088, 33280, 66048] [0, 1, 3, 7, 15, 7, 63, 127, 255, 511, 1023, 2047, 4095, 8191, 1023, 32767, 65535, 131071] 32832 0 [(.p, 0), (.p, 1), (.p, 2), (.p, 3), (.r, 4), (.r, 5), (.l, 6), (.p, 7), (.p, 8), (.p, 9), (.p, 10), (.p, 11), (.p, 12), (.r, 13), (.r, 14), (.l, 15), (.p, 16), (.p, 17)] (by kernel_rfl) (by kernel_rfl) (by kernel_rfl) (by kernel_rfl) (by kernel_rfl) ?_
    replace hw := hw.drew
    replace f5 := f5.d
    replace f4 := f4.d
    replace f := f.d
    refine wl_p (fun _ => o_move rfl) ?_
    refine wl_p (fun _ => o_not rfl) ?_
    refine wl_p (fun _ => o_move rfl) ?_
    refine wl_p (fun _ => o_faddr (s := 89) (i := 0) (off := 0) Tryz.underlying89 rfl Tryz.sizeOf84 rfl rfl rfl) ?_
    refine wl_r (o_loadbg Tryz.isAgg84 rfl f (by rfl)) ?_
    refine wl_r (o_loadag Tryz.isAgg54 Tryz.sizeOf54 rfl f5 (opC_length ..)) ?_
    refine wl_know 17 false rfl (by simp) ?_
    refine wl_callf (xs := [_]) (cs := []) rfl rfl (sh4_good i12 _ (by omega) (by omega)) ?_
    rintro _ w21 ⟨rfl, b21⟩
    have sb21 := b21.size
    simp only [drew_size] at sb21
    replace hw := hw.trans (b21.mono hw.size)
    replace f := f.u b21
    replace f4 := f4.u b21
    replace f5 := f5.u b21
    cases hgd : goodS k p.length q.length u
    · rw [if_neg (fun h => by have := (okOp_of h.1).2.2; rw [hgd] at this; cases this)]
      refine wl_p (fun _ => o_not rfl) ?_
      refine wl_p (fun _ => o_pick_f rfl rfl) ?_
      refine wl_p (fun _ => o_move rfl) ?_
      refine wl_off ?_
      refine wl_off ?_
      refine wl_off ?_
      refine wl_off ?_
      refine wl_off ?_
      refine wl_off ?_
      refine wl_off ?_
      refine wl_p (fun _ => o_pick_t rfl rfl) ?_
      refine wl_nild ?_
      refine rk_true rfl ?_
      refine rk_seq ?_
      refine rk_region ?_
      refine wl_p (fun _ => o_assign rfl) ?_
      refine wl_nil ?_
      refine ret1 rfl rfl ?_
      exact ⟨rfl, hS.same hw⟩
    have hok : okOp k p.length q.length u = true := by simp [okOp, hgd, hk1, hk2]
    by_cases hx : wr ∈ S.2.1
    · refine wl_p (fun _ => o_not rfl) ?_
      refine wl_p (fun _ => o_pick_f rfl rfl) ?_
      refine wl_p (fun _ => o_move rfl) ?_
      refine wl_p (fun _ => o_move rfl) ?_
      refine wl_p (fun _ => o_nil rfl) ?_
      refine wl_p (fun _ => o_faddr (s := 31) (i := 1) (off := 1) Tryz.underlying31 rfl Tryz.sizeOf29 rfl rfl rfl) ?_
      refine wl_r (o_loadbg Tryz.isAgg29 rfl (f0.u hw) (by rfl)) ?_
      refine wl_r (o_ldKyB rfl f4) ?_
      refine wl_call rfl (C_member _ (f2.u hw).to_RKs rfl (by omega)) ?_
      rintro v30 w30 ⟨rfl, b30⟩
      have s30 := b30.size
      replace hw := hw.trans (b30.mono hw.size)
      replace f5 := f5.u b30
      replace f4 := f4.u b30
      replace f := f.u b30
      refine wl_p (fun _ => o_not rfl) ?_
      refine wl_p (fun _ => o_pick_f rfl rfl) ?_
      refine wl_nild ?_
      rw [decide_eq_true hx]
      by_cases h12 : k = 1 ∨ k = 2
      · rw [if_pos ⟨hok, hx, fun h => absurd h12 (by omega)⟩]
        rcases h12 with rfl | rfl
        · refine rk_false rfl ?_
          refine rk_skip ?_
          refine rk_seq ?_
          refine rk_seq ?_
          refine rk_draw (id := 4) (none) [0, 1, 2, 4, 8, 24, 40, 72, 136, 256, 768, 1280, 2304, 256, 12544, 16640, 33024] [0, 1, 3, 7, 15, 31, 63, 127, 255, 511, 1023, 2047, 4095, 511, 16383, 32767, 65535] 16384 0 [(.p, 0), (.r, 1), (.p, 2), (.p, 3), (.p, 4), (.r, 5), (.p, 6), (.p, 7), (.p, 8), (.p, 9), (.p, 10), (.p, 11), (.r, 12), (.r, 13), (.l, 14), (.p, 15), (.p, 16)] (by kernel_rfl) (by kernel_rfl) (by kernel_rfl) (by kernel_rfl) (by kernel_rfl) ?_
          replace hw := hw.drew
          replace f5 := f5.d
          replace f := f.d
          replace f4 := f4.d
          refine wl_p (fun _ => o_faddr (s := 54) (i := 0) (off := 0) Tryz.underlying54 rfl Tryz.sizeOf3 rfl rfl rfl) ?_
          refine wl_r (o_loadbg Tryz.isAgg3 rfl f5 (by rfl)) ?_
          refine wl_p (fun _ => o_ne rfl rfl) ?_
          refine wl_p (fun _ => o_move rfl) ?_
          refine wl_off ?_
          refine wl_off ?_
          refine wl_off ?_
          refine wl_p (fun _ => o_pick_f rfl rfl) ?_
          refine wl_p (fun _ => o_move rfl) ?_
          refine wl_off ?_
          refine wl_off ?_
          refine wl_off ?_
          refine wl_off ?_
          refine wl_off ?_
          refine wl_off ?_
          refine wl_off ?_
          refine wl_p (fun _ => o_pick_f rfl rfl) ?_
          refine wl_nild ?_
          refine rk_false rfl ?_
          refine rk_skip ?_
          refine rk_seq ?_
          refine rk_region ?_
          refine wl_p (fun _ => o_faddr (s := 89) (i := 3) (off := 3) Tryz.underlying89 rfl Tryz.sizeOf87 rfl rfl rfl) ?_
          refine wl_r (o_loadbg Tryz.isAgg87 rfl f (by rfl)) ?_
          refine wl_p (fun _ => o_move rfl) ?_
          refine wl_r (o_loadag Tryz.isAgg54 Tryz.sizeOf54 rfl f5 (opC_length ..)) ?_
          refine wl_callf (xs := [_, _]) (cs := []) rfl rfl (sh4_do i12 _ (hS.same hw).1 ho (hK.below hw) (hV.below hw) rfl rfl hp hq) ?_
          rintro _ w54 ⟨rfl, e1, e2⟩
          have e3 := e2.after hw
          clear hw
          refine wl_p (fun _ => o_assign rfl) ?_
          refine wl_nil ?_
          refine ret1 rfl rfl ?_
          exact ⟨rfl, e1, e3⟩
        · refine rk_false rfl ?_
          refine rk_skip ?_
          refine rk_seq ?_
          refine rk_seq ?_
          refine rk_draw (id := 4) (none) [0, 1, 2, 4, 8, 24, 40, 72, 136, 256, 768, 1280, 2304, 256, 12544, 16640, 33024] [0, 1, 3, 7, 15, 31, 63, 127, 255, 511, 1023, 2047, 4095, 511, 16383, 32767, 65535] 16384 0 [(.p, 0), (.r, 1), (.p, 2), (.p, 3), (.p, 4), (.r, 5), (.p, 6), (.p, 7), (.p, 8), (.p, 9), (.p, 10), (.p, 11), (.r, 12), (.r, 13), (.l, 14), (.p, 15), (.p, 16)] (by kernel_rfl) (by kernel_rfl) (by kernel_rfl) (by kernel_rfl) (by kernel_rfl) ?_
          replace hw := hw.drew
          replace f5 := f5.d
          replace f := f.d
          replace f4 := f4.d
          refine wl_p (fun _ => o_faddr (s := 54) (i := 0) (off := 0) Tryz.underlying54 rfl Tryz.sizeOf3 rfl rfl rfl) ?_
          refine wl_r (o_loadbg Tryz.isAgg3 rfl f5 (by rfl)) ?_
          refine wl_p (fun _ => o_ne rfl rfl) ?_
          refine wl_p (fun _ => o_move rfl) ?_
          refine wl_p (fun _ => o_faddr (s := 54) (i := 0) (off := 0) Tryz.underlying54 rfl Tryz.sizeOf3 rfl rfl rfl) ?_
          refine wl_r (o_loadbg Tryz.isAgg3 rfl f5 (by rfl)) ?_
          refine wl_p (fun _ => o_ne rfl rfl) ?_
          refine wl_p (fun _ => o_pick_t rfl rfl) ?_
          refine wl_p (fun _ => o_move rfl) ?_
          refine wl_off ?_
          refine wl_off ?_
          refine wl_off ?_
          refine wl_off ?_
          refine wl_off ?_
          refine wl_off ?_
          refine wl_off ?_
          refine wl_p (fun _ => o_pick_f rfl rfl) ?_
          refine wl_nild ?_
          refine rk_false rfl ?_
          refine rk_skip ?_
          refine rk_seq ?_
          refine rk_region ?_
          refine wl_p (fun _ => o_faddr (s := 89) (i := 3) (off := 3) Tryz.underlying89 rfl Tryz.sizeOf87 rfl rfl rfl) ?_
          refine wl_r (o_loadbg Tryz.isAgg87 rfl f (by rfl)) ?_
          refine wl_p (fun _ => o_move rfl) ?_
          refine wl_r (o_loadag Tryz.isAgg54 Tryz.sizeOf54 rfl f5 (opC_length ..)) ?_
          refine wl_callf (xs := [_, _]) (cs := []) rfl rfl (sh4_do i12 _ (hS.same hw).1 ho (hK.below hw) (hV.below hw) rfl rfl hp hq) ?_
          rintro _ w54 ⟨rfl, e1, e2⟩
          have e3 := e2.after hw
          clear hw
          refine wl_p (fun _ => o_assign rfl) ?_
          refine wl_nil ?_
          refine ret1 rfl rfl ?_
          exact ⟨rfl, e1, e3⟩
      · have n1 : k ≠ 1 := by omega
        have n2 : k ≠ 2 := by omega
        by_cases hy : wr ∈ S.2.2
        · rw [if_pos ⟨hok, hx, fun _ => hy⟩]
          refine rk_false rfl ?_
          refine rk_skip ?_
          refine rk_seq ?_
          refine rk_seq ?_
          refine rk_draw (id := 4) (none) [0, 1, 2, 4, 8, 24, 40, 72, 136, 256, 768, 1280, 2304, 256, 12544, 16640, 33024] [0, 1, 3, 7, 15, 31, 63, 127, 255, 511, 1023, 2047, 4095, 511, 16383, 32767, 65535] 16384 0 [(.p, 0), (.r, 1), (.p, 2), (.p, 3), (.p, 4), (.r, 5), (.p, 6), (.p, 7), (.p, 8), (.p, 9), (.p, 10), (.p, 11), (.r, 12), (.r, 13), (.l, 14), (.p, 15), (.p, 16)] (by kernel_rfl) (by kernel_rfl) (by kernel_rfl) (by kernel_rfl) (by kernel_rfl) ?_
          replace hw := hw.drew
          replace f := f.d
          replace f4 := f4.d
          replace f5 := f5.d
          refine wl_p (fun _ => o_faddr (s := 54) (i := 0) (off := 0) Tryz.underlying54 rfl Tryz.sizeOf3 rfl rfl rfl) ?_
          refine wl_r (o_loadbg Tryz.isAgg3 rfl f5 (by rfl)) ?_
          refine wl_p (fun _ => o_ne rfl rfl) ?_
          refine wl_p (fun _ => o_move rfl) ?_
          refine wl_know 36 true rfl (decide_eq_true (by omega)) ?_
          refine wl_p (fun _ => o_faddr (s := 54) (i := 0) (off := 0) Tryz.underlying54 rfl Tryz.sizeOf3 rfl rfl rfl) ?_
          refine wl_r (o_loadbg Tryz.isAgg3 rfl f5 (by rfl)) ?_
          refine wl_p (fun _ => o_ne rfl rfl) ?_
          refine wl_p (fun _ => o_pick_t rfl rfl) ?_
          refine wl_p (fun _ => o_move rfl) ?_
          refine wl_know 41 true rfl (decide_eq_true (by omega)) ?_
          refine wl_p (fun _ => o_move rfl) ?_
          refine wl_p (fun _ => o_nil rfl) ?_
          refine wl_p (fun _ => o_faddr (s := 31) (i := 2) (off := 2) Tryz.underlying31 rfl Tryz.sizeOf29 rfl rfl rfl) ?_
          refine wl_r (o_loadbg Tryz.isAgg29 rfl (f0.u hw) (by rfl)) ?_
          refine wl_r (o_ldKyB rfl f4) ?_
          refine wl_call rfl (C_member _ (f3.u hw).to_RKs rfl (by omega)) ?_
          rintro v47 w47 ⟨rfl, b47⟩
          simp only [drew_size] at b47
          have s47 := b47.size
          simp only [drew_size] at s47
          replace hw := hw.trans (b47.mono hw.size)
          replace f5 := f5.u b47
          replace f4 := f4.u b47
          replace f := f.u b47
          refine wl_p (fun _ => o_not rfl) ?_
          refine wl_p (fun _ => o_pick_t rfl rfl) ?_
          refine wl_nild ?_
          rw [decide_eq_true hy]
          refine rk_false rfl ?_
          refine rk_skip ?_
          refine rk_seq ?_
          refine rk_region ?_
          refine wl_p (fun _ => o_faddr (s := 89) (i := 3) (off := 3) Tryz.underlying89 rfl Tryz.sizeOf87 rfl rfl rfl) ?_
          refine wl_r (o_loadbg Tryz.isAgg87 rfl f (by rfl)) ?_
          refine wl_p (fun _ => o_move rfl) ?_
          refine wl_r (o_loadag Tryz.isAgg54 Tryz.sizeOf54 rfl f5 (opC_length ..)) ?_
          refine wl_callf (xs := [_, _]) (cs := []) rfl rfl (sh4_do i12 _ (hS.same hw).1 ho (hK.below hw) (hV.below hw) rfl rfl hp hq) ?_
          rintro _ w54 ⟨rfl, e1, e2⟩
          have e3 := e2.after hw
          clear hw
          refine wl_p (fun _ => o_assign rfl) ?_
          refine wl_nil ?_
          refine ret1 rfl rfl ?_
          exact ⟨rfl, e1, e3⟩
        · rw [if_neg (fun h => hy (h.2.2 ⟨n1, n2⟩))]
          refine rk_false rfl ?_
          refine rk_skip ?_
          refine rk_seq ?_
          refine rk_seq ?_
          refine rk_draw (id := 4) (none) [0, 1, 2, 4, 8, 24, 40, 72, 136, 256, 768, 1280, 2304, 256, 12544, 16640, 33024] [0, 1, 3, 7, 15, 31, 63, 127, 255, 511, 1023, 2047, 4095, 511, 16383, 32767, 65535] 16384 0 [(.p, 0), (.r, 1), (.p, 2), (.p, 3), (.p, 4), (.r, 5), (.p, 6), (.p, 7), (.p, 8), (.p, 9), (.p, 10), (.p, 11), (.r, 12), (.r, 13), (.l, 14), (.p, 15), (.p, 16)] (by kernel_rfl) (by kernel_rfl) (by kernel_rfl) (by kernel_rfl) (by kernel_rfl) ?_
          replace hw := hw.drew
          replace f := f.d
          replace f4 := f4.d
          replace f5 := f5.d
          refine wl_p (fun _ => o_faddr (s := 54) (i := 0) (off := 0) Tryz.underlying54 rfl Tryz.sizeOf3 rfl rfl rfl) ?_
          refine wl_r (o_loadbg Tryz.isAgg3 rfl f5 (by rfl)) ?_
          refine wl_p (fun _ => o_ne rfl rfl) ?_
          refine wl_p (fun _ => o_move rfl) ?_
          refine wl_know 36 true rfl (decide_eq_true (by omega)) ?_
          refine wl_p (fun _ => o_faddr (s := 54) (i := 0) (off := 0) Tryz.underlying54 rfl Tryz.sizeOf3 rfl rfl rfl) ?_
          refine wl_r (o_loadbg Tryz.isAgg3 rfl f5 (by rfl)) ?_
          refine wl_p (fun _ => o_ne rfl rfl) ?_
          refine wl_p (fun _ => o_pick_t rfl rfl) ?_
          refine wl_p (fun _ => o_move rfl) ?_
          refine wl_know 41 true rfl (decide_eq_true (by omega)) ?_
          refine wl_p (fun _ => o_move rfl) ?_
          refine wl_p (fun _ => o_nil rfl) ?_
          refine wl_p (fun _ => o_faddr (s := 31) (i := 2) (off := 2) Tryz.underlying31 rfl Tryz.sizeOf29 rfl rfl rfl) ?_
          refine wl_r (o_loadbg Tryz.isAgg29 rfl (f0.u hw) (by rfl)) ?_
          refine wl_r (o_ldKyB rfl f4) ?_
          refine wl_call rfl (C_member _ (f3.u hw).to_RKs rfl (by omega)) ?_
          rintro v47 w47 ⟨rfl, b47⟩
          simp only [drew_size] at b47
          have s47 := b47.size
          simp only [drew_size] at s47
          replace hw := hw.trans (b47.mono hw.size)
          replace f5 := f5.u b47
          replace f4 := f4.u b47
          replace f := f.u b47
          refine wl_p (fun _ => o_not rfl) ?_
          refine wl_p (fun _ => o_pick_t rfl rfl) ?_
          refine wl_nild ?_
          rw [decide_eq_false hy]
          refine rk_true rfl ?_
          refine rk_seq ?_
          refine rk_region ?_
          refine wl_p (fun _ => o_assign rfl) ?_
          refine wl_nil ?_
          refine ret1 rfl rfl ?_
          exact ⟨rfl, hS.same hw⟩
    · rw [if_neg (fun h => hx h.2.1)]
      refine wl_p (fun _ => o_not rfl) ?_
      refine wl_p (fun _ => o_pick_f rfl rfl) ?_
      refine wl_p (fun _ => o_move rfl) ?_
      refine wl_p (fun _ => o_move rfl) ?_
      refine wl_p (fun _ => o_nil rfl) ?_
      refine wl_p (fun _ => o_faddr (s := 31) (i := 1) (off := 1) Tryz.underlying31 rfl Tryz.sizeOf29 rfl rfl rfl) ?_
      refine wl_r (o_loadbg Tryz.isAgg29 rfl (f0.u hw) (by rfl)) ?_
      refine wl_r (o_ldKyB rfl f4) ?_
      refine wl_call rfl (C_member _ (f2.u hw).to_RKs rfl (by omega)) ?_
      rintro v30 w30 ⟨rfl, b30⟩
      have s30 := b30.size
      replace hw := hw.trans (b30.mono hw.size)
      replace f5 := f5.u b30
      replace f4 := f4.u b30
      replace f := f.u b30
      refine wl_p (fun _ => o_not rfl) ?_
      refine wl_p (fun _ => o_pick_f rfl rfl) ?_
      refine wl_nild ?_
      rw [decide_eq_false hx]
      refine rk_true rfl ?_
      refine rk_seq ?_
      refine rk_region ?_
      refine wl_p (fun _ => o_assign rfl) ?_
      refine wl_nil ?_
      refine ret1 rfl rfl ?_
      exact ⟨rfl, hS.same hw⟩
  · have hk1 : k < 1 ∨ 6 < k := by omega
    rw [if_neg (fun h => by have := okOp_of h.1; omega)]
    refine rk_seq ?_
    refine rk_region ?_
    refine wl_boxg _ rfl (by rfl) ?_
    rintro g4 w4 f4 b4 i4 i4_1
    have s4 := b4.size
    replace hw := hw.trans (b4.mono hw.size)
    refine wl_boxg _ rfl (by rfl) ?_
    rintro g5 w5 f5 b5 i5 i5_1
    have s5 := b5.size
    replace hw := hw.trans (b5.mono hw.size)
    replace f4 := f4.u b5
    refine wl_p (fun _ => o_assign rfl) ?_
    refine wl_nil ?_
    refine rk_seq ?_
    refine rk_region ?_
    refine wl_p (fun _ => o_faddr (s := 54) (i := 0) (off := 0) Tryz.underlying54 rfl Tryz.sizeOf3 rfl rfl rfl) ?_
    refine wl_r (o_loadbg Tryz.isAgg3 rfl f5 (by rfl)) ?_
    refine wl_call rfl (C_formBad _ (by omega)) ?_
    rintro v12 w12 ⟨rfl, b12⟩
    have s12 := b12.size
    replace hw := hw.trans (b12.mono hw.size)
    replace f4 := f4.u b12
    replace f5 := f5.u b12
    refine wl_p (fun _ => o_move rfl) ?_
    refine wl_p (fun _ => o_ext20 rfl) ?_
    refine wl_p (fun _ => o_ext21 rfl) ?_
    refine wl_allocg [_, _, _, _] Tryz.zeroValue89 (by rfl) ?_
    rintro g7 w7 f7 b7 i7 i7_1
    have s7 := b7.size
    replace hw := hw.trans (b7.mono hw.size)
    replace f5 := f5.u b7
    replace f4 := f4.u b7
    refine wl_storega Tryz.sizeOf89 rfl rfl (by rfl) (by decide) f7 (by rfl) ?_
    rintro w_1 f g_1 e
    have s := g_1.size
    replace hw := hw.trans (below_of_grownBy g_1.g hw.size (by omega))
    replace f4 := f4.k g_1.g (ap_some (by omega))
    replace f5 := f5.k g_1.g (ap_some (by omega))
    clear f7
    refine wl_p (fun _ => o_assign rfl) ?_
    refine wl_nil ?_
    refine rk_seq ?_
    refine rk_seq ?_
    refine rk_draw (id := 2) (none) [0, 1, 2, 4, 12, 4, 52, 68, 132, 320, 512, 1536, 2560, 4608, 512, 25088, 33280, 66048] [0, 1, 3, 7, 15, 7, 63, 127, 255, 511, 1023, 2047, 4095, 8191, 1023, 32767, 65535, 131071] 32832 0 [(.p, 0), (.p, 1), (.p, 2), (.p, 3), (.r, 4), (.r, 5), (.l, 6), (.p, 7), (.p, 8), (.p, 9), (.p, 10), (.p, 11), (.p, 12), (.r, 13), (.r, 14), (.l, 15), (.p, 16), (.p, 17)] (by kernel_rfl) (by kernel_rfl) (by kernel_rfl) (by kernel_rfl) (by kernel_rfl) ?_
    replace hw := hw.drew
    replace f5 := f5.d
    replace f4 := f4.d
    replace f := f.d
    refine wl_p (fun _ => o_move rfl) ?_
    refine wl_p (fun _ => o_not rfl) ?_
    refine wl_p (fun _ => o_move rfl) ?_
    refine wl_off ?_
    refine wl_off ?_
    refine wl_off ?_
    refine wl_off ?_
    refine wl_off ?_
    refine wl_p (fun _ => o_pick_t rfl rfl) ?_
    refine wl_p (fun _ => o_move rfl) ?_
    refine wl_off ?_
    refine wl_off ?_
    refine wl_off ?_
    refine wl_off ?_
    refine wl_off ?_
    refine wl_off ?_
    refine wl_off ?_
    refine wl_p (fun _ => o_pick_t rfl rfl) ?_
    refine wl_nild ?_
    refine rk_true rfl ?_
    refine rk_seq ?_
    refine rk_region ?_
    refine wl_p (fun _ => o_assign rfl) ?_
    refine wl_nil ?_
    refine ret1 rfl rfl ?_
    exact ⟨rfl, hS.same hw⟩
/-- An op of a writer, done to any state. -/
def stepS (S : Stt) (wr : Ky) (o : Opn) : Stt × Bool := if OkSt S.1 S.2.1 S.2.2 then stS S wr o else (S, false)
theorem OkSt.ok {S : Stt} (h : OkSt S.1 S.2.1 S.2.2) : StOk S := by
  obtain ⟨⟨h1, h2⟩, ⟨h3, h4⟩, h5, h6, h7⟩ := h
  exact ⟨h5, h6, h7, by omega, by omega, by omega⟩
theorem C_opsStep {A B C K V : Option Addr} {S : Stt} {r : Stt × Bool} {p q : By} {n c n2 c2 n3 c3 mk md : Nat} {ck cv : Nat} {k : Int} {u wr : Ky} (w : World) (hA : RI w A S.1) (hB : RKs w B S.2.1) (hC : RKs w C S.2.2) (hK : Rd w K p) (hV : Rd w V q) (hr : stepS S wr (k, p, q, u) = r) (hn : n = S.1.length) (hn2 : n2 = S.2.1.length) (hn3 : n3 = S.2.2.length) (hmk : mk = p.length) (hmd : md = q.length) (hl : S.1.length ≤ 400000) (hl2 : S.2.1.length ≤ 400000) (hl3 : S.2.2.length ≤ 400000) (hL : LtI S.1) (hp : p.length ≤ 4000000) (hq : q.length ≤ 4000000) :
    CallsR Tryz.prog 15 [.agg #[.slice A n c, .slice B n2 c2, .slice C n3 c3], .agg (B8 wr.1).toArray, .agg (opC k K mk ck V md cv u).toArray] w fun v w' => ∃ A' c' B' d' C' e', v = .tuple #[.agg #[.slice A' r.1.1.length c', .slice B' r.1.2.1.length d', .slice C' r.1.2.2.length e'], .bool r.2] ∧ OwnI w' w.heap.size w'.heap.size A' c' r.1.1 ∧ OwnKs w' w.heap.size w'.heap.size B' d' r.1.2.1 ∧ OwnKs w' w.heap.size w'.heap.size C' e' r.1.2.2 ∧ Below w.heap.size w w' := by
  subst hn; subst hn2; subst hn3; subst hmk; subst hmd
  unfold stepS at hr
  refine callsR Tryz.func15 rfl rfl (by kernel_rfl) rfl ?_
  have hw := Below.refl w.heap.size w
  by_cases h1 : OkSt S.1 S.2.1 S.2.2
  · rw [if_pos h1] at hr
    refine rk_seq ?_
    refine rk_region ?_
    refine wl_boxg [_, _, _] rfl (by rfl) ?_
    rintro g3 w3 f3 b3 i3 i3_1
    have s3 := b3.size
    replace hw := hw.trans (b3.mono hw.size)
    refine wl_boxg _ rfl (by rfl) ?_
    rintro g4 w4 f4 b4 i4 i4_1
    have s4 := b4.size
    replace hw := hw.trans (b4.mono hw.size)
    replace f3 := f3.u b4
    refine wl_boxg _ rfl (by rfl) ?_
    rintro g5 w5 f5 b5 i5 i5_1
    have s5 := b5.size
    replace hw := hw.trans (b5.mono hw.size)
    replace f3 := f3.u b5
    replace f4 := f4.u b5
    refine wl_allocg [_, _, _] Tryz.zeroValue31 (by rfl) ?_
    rintro g6 w6 f6 b6 i6 i6_1
    have s6 := b6.size
    replace hw := hw.trans (b6.mono hw.size)
    replace f4 := f4.u b6
    replace f3 := f3.u b6
    replace f5 := f5.u b6
    refine wl_p (fun _ => o_assign rfl) ?_
    refine wl_nil ?_
    refine rk_seq ?_
    refine rk_region ?_
    refine wl_r (o_loadag Tryz.isAgg31 Tryz.sizeOf31 rfl f3 (by rfl)) ?_
    refine wl_call rfl (C_clone _ (hA.u hw) (hB.u hw) (hC.u hw) rfl rfl rfl (by omega) (by omega) (by omega) (by omega)) ?_
    rintro v10 w10 ⟨A10, ⟨c10, ⟨B10, ⟨d10, ⟨C10, ⟨e10, ⟨m110, ⟨m210, ⟨rfl, ⟨f10, ⟨f10_1, ⟨f10_2, ⟨i10, ⟨i10_1, ⟨i10_2, b10⟩⟩⟩⟩⟩⟩⟩⟩⟩⟩⟩⟩⟩⟩⟩
    have qf10 := f10.cap
    have qf10_1 := f10_1.cap
    have qf10_2 := f10_2.cap
    have s10 := b10.size
    replace hw := hw.trans (b10.mono hw.size)
    replace f5 := f5.u b10
    replace f3 := f3.u b10
    replace f4 := f4.u b10
    replace f6 := f6.u b10
    refine wl_storega Tryz.sizeOf31 rfl rfl (by rfl) (oneCell_of (by rfl)) f3 (by rfl) ?_
    rintro w_1 f g e
    have s := g.size
    replace hw := hw.trans (below_of_grownBy g.g hw.size (by omega))
    replace f6 := f6.k g.g (ap_some (by omega))
    replace f4 := f4.k g.g (ap_some (by omega))
    replace f5 := f5.k g.g (ap_some (by omega))
    replace f10_2 := f10_2.y g (by decide)
    replace f10_1 := f10_1.y g (by decide)
    replace f10 := f10.y g (by decide)
    clear f3
    refine wl_nil ?_
    refine rk_seq ?_
    refine rk_seq ?_
    refine rk_region ?_
    refine wl_r (o_loadag Tryz.isAgg31 Tryz.sizeOf31 rfl f (by rfl)) ?_
    refine wl_call rfl (C_checkStateOk _ f10.to_RI f10_1.to_RKs f10_2.to_RKs rfl rfl rfl (by omega) (by omega) (by omega) (by omega) (by omega)) ?_
    rintro v12 w12 ⟨rfl, b12⟩
    have s12 := b12.size
    replace hw := hw.trans (b12.mono hw.size)
    replace f10 := f10.u b12
    replace f10_1 := f10_1.u b12
    replace f10_2 := f10_2.u b12
    replace f5 := f5.u b12
    replace f4 := f4.u b12
    replace f6 := f6.u b12
    replace f := f.u b12
    refine wl_p (fun _ => o_ne rfl rfl) ?_
    refine wl_nil ?_
    refine rk_false rfl ?_
    refine rk_skip ?_
    refine rk_seq ?_
    refine rk_region ?_
    refine wl_r (o_ldKyB rfl f4) ?_
    refine wl_r (o_loadag Tryz.isAgg54 Tryz.sizeOf54 rfl f5 (opC_length ..)) ?_
    have hS : StAt w12 w6.heap.size g3 S := ⟨A10, c10, B10, d10, C10, e10, f, f10.base (Nat.le_refl _) (by omega), f10_1.base (by omega) (by omega), f10_2.base (by omega) (by omega), fun k hk e => by
      have x1 := (f10_1.rng k hk).2
      have x2 := (f10_2.rng k e).1
      omega, by omega⟩
    refine wl_call rfl (K_step w12 hS h1.ok (hK.below hw) (hV.below hw) rfl rfl hp hq) ?_
    rintro _ w17 ⟨rfl, e1, e2⟩
    rw [hr] at e1 ⊢
    obtain ⟨A1, a1, A2, a2, A3, a3, z0, z1, z2, z3, z4, z5⟩ := e1.ex
    obtain ⟨x1, x2, r1, r2, y1, y2, y3, t1, t2⟩ := e2.ex
    have s1 := y1.size
    have s2 := y2.size
    have s3 := y3.size
    have hws := hw.size
    have f6b := ((f6.y y1 (by decide)).y y2 (by decide)).k y3.g (ap_some (lo := g6) (hi := g6 + 1) (by omega))
    have hw2 : Below w.heap.size w w17 := hw.trans (((y1.below hws (fun k hk => by have := t1 k hk; omega)).trans (y2.below (by omega) (fun k hk => by have := t2 k hk; omega))).trans (y3.below (by omega) (fun k hk => by injection hk with hk; omega)))
    clear hw f f10 f10_1 f10_2 f5 f4 f6 hS e1 e2
    have hw := hw2
    refine wl_p (fun _ => o_assign rfl) ?_
    refine wl_nil ?_
    refine rk_seq ?_
    refine rk_region ?_
    refine wl_r (o_loadag Tryz.isAgg31 Tryz.sizeOf31 rfl z0 (by rfl)) ?_
    refine wl_p (fun _ => o_move rfl) ?_
    refine wl_storega Tryz.sizeOf31 rfl rfl (by rfl) (oneCell_of (by rfl)) f6b (by rfl) ?_
    rintro w_2 f g_1 e_1
    have s_1 := g_1.size
    replace hw2 := hw2.trans (below_of_grownBy g_1.g hw2.size (by omega))
    replace hw := hw.trans (below_of_grownBy g_1.g hw.size (by omega))
    replace z3 := z3.y g_1 (by decide)
    replace z2 := z2.y g_1 (by decide)
    replace z1 := z1.y g_1 (by decide)
    replace z0 := z0.k g_1.g (ap_some (by omega))
    clear f6b
    refine wl_p (fun _ => o_assign rfl) ?_
    refine wl_nil ?_
    refine ret_any rfl (.cell rfl Tryz.isAgg31 Tryz.sizeOf31 (by assumption) rfl <| .tmp rfl <| .nil) (by simp) ?_
    exact ⟨A1, a1, A2, a2, A3, a3, rfl, z1.base (by omega) (by omega), z2.base (by omega) (by omega), z3.base (by omega) (by omega), hw⟩
  · rw [if_neg h1] at hr
    subst hr
    refine rk_seq ?_
    refine rk_region ?_
    refine wl_boxg [_, _, _] rfl (by rfl) ?_
    rintro g3 w3 f3 b3 i3 i3_1
    have s3 := b3.size
    replace hw := hw.trans (b3.mono hw.size)
    refine wl_boxg _ rfl (by rfl) ?_
    rintro g4 w4 f4 b4 i4 i4_1
    have s4 := b4.size
    replace hw := hw.trans (b4.mono hw.size)
    replace f3 := f3.u b4
    refine wl_boxg _ rfl (by rfl) ?_
    rintro g5 w5 f5 b5 i5 i5_1
    have s5 := b5.size
    replace hw := hw.trans (b5.mono hw.size)
    replace f3 := f3.u b5
    replace f4 := f4.u b5
    refine wl_allocg [_, _, _] Tryz.zeroValue31 (by rfl) ?_
    rintro g6 w6 f6 b6 i6 i6_1
    have s6 := b6.size
    replace hw := hw.trans (b6.mono hw.size)
    replace f4 := f4.u b6
    replace f3 := f3.u b6
    replace f5 := f5.u b6
    refine wl_p (fun _ => o_assign rfl) ?_
    refine wl_nil ?_
    refine rk_seq ?_
    refine rk_region ?_
    refine wl_r (o_loadag Tryz.isAgg31 Tryz.sizeOf31 rfl f3 (by rfl)) ?_
    refine wl_call rfl (C_clone _ (hA.u hw) (hB.u hw) (hC.u hw) rfl rfl rfl (by omega) (by omega) (by omega) (by omega)) ?_
    rintro v10 w10 ⟨A10, ⟨c10, ⟨B10, ⟨d10, ⟨C10, ⟨e10, ⟨m110, ⟨m210, ⟨rfl, ⟨f10, ⟨f10_1, ⟨f10_2, ⟨i10, ⟨i10_1, ⟨i10_2, b10⟩⟩⟩⟩⟩⟩⟩⟩⟩⟩⟩⟩⟩⟩⟩
    have qf10 := f10.cap
    have qf10_1 := f10_1.cap
    have qf10_2 := f10_2.cap
    have s10 := b10.size
    replace hw := hw.trans (b10.mono hw.size)
    replace f5 := f5.u b10
    replace f3 := f3.u b10
    replace f4 := f4.u b10
    replace f6 := f6.u b10
    refine wl_storega Tryz.sizeOf31 rfl rfl (by rfl) (oneCell_of (by rfl)) f3 (by rfl) ?_
    rintro w_1 f g e
    have s := g.size
    replace hw := hw.trans (below_of_grownBy g.g hw.size (by omega))
    replace f6 := f6.k g.g (ap_some (by omega))
    replace f4 := f4.k g.g (ap_some (by omega))
    replace f5 := f5.k g.g (ap_some (by omega))
    replace f10_2 := f10_2.y g (by decide)
    replace f10_1 := f10_1.y g (by decide)
    replace f10 := f10.y g (by decide)
    clear f3
    refine wl_nil ?_
    refine rk_seq ?_
    refine rk_seq ?_
    refine rk_region ?_
    refine wl_r (o_loadag Tryz.isAgg31 Tryz.sizeOf31 rfl f (by rfl)) ?_
    refine wl_call rfl (C_checkStateBad _ f10.to_RI f10_1.to_RKs f10_2.to_RKs rfl rfl rfl (by omega) (by omega) (by omega) (by omega) (by omega)) ?_
    rintro v12 w12 ⟨rfl, b12⟩
    have s12 := b12.size
    replace hw := hw.trans (b12.mono hw.size)
    replace f10 := f10.u b12
    replace f10_1 := f10_1.u b12
    replace f10_2 := f10_2.u b12
    replace f5 := f5.u b12
    replace f4 := f4.u b12
    replace f6 := f6.u b12
    replace f := f.u b12
    refine wl_p (fun _ => o_ne rfl rfl) ?_
    refine wl_nil ?_
    refine rk_true rfl ?_
    refine rk_seq ?_
    refine rk_region ?_
    refine wl_r (o_loadag Tryz.isAgg31 Tryz.sizeOf31 rfl f (by rfl)) ?_
    refine wl_storega Tryz.sizeOf31 rfl rfl (by rfl) (oneCell_of (by rfl)) f6 (by rfl) ?_
    rintro w_2 f_1 g_1 e_1
    have s_1 := g_1.size
    replace hw := hw.trans (below_of_grownBy g_1.g hw.size (by omega))
    replace f := f.k g_1.g (ap_some (by omega))
    replace f4 := f4.k g_1.g (ap_some (by omega))
    replace f5 := f5.k g_1.g (ap_some (by omega))
    replace f10_2 := f10_2.y g_1 (by decide)
    replace f10_1 := f10_1.y g_1 (by decide)
    replace f10 := f10.y g_1 (by decide)
    clear f6
    refine wl_p (fun _ => o_assign rfl) ?_
    refine wl_nil ?_
    refine ret_any rfl (.cell rfl Tryz.isAgg31 Tryz.sizeOf31 (by assumption) rfl <| .tmp rfl <| .nil) (by simp) ?_
    exact ⟨A10, c10, B10, d10, C10, e10, rfl, f10.base (by omega) (by omega), f10_1.base (by omega) (by omega), f10_2.base (by omega) (by omega), hw⟩
end Go.Proofs.YtahkeoegbjopfaaGreat
