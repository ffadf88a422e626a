/-
  Walks of package ops: members added and dropped.
-/
import Derived.Test.YtahkeoegbjopfaaGreatMg8
import GoSem.Op.String
namespace Go.Proofs.YtahkeoegbjopfaaGreat
set_option maxRecDepth 100000
open Go.RowKit
theorem mem_val (u : Ky) (L : List Ky) : u.1 ∈ L.map Subtype.val ↔ u ∈ L := by
 rw [List.mem_map]
 exact ⟨fun ⟨a, ha, e⟩ => Subtype.ext e ▸ ha, fun h => ⟨u, h, rfl⟩⟩
theorem IncK.srt {L : List Ky} (h : IncK L) : Srt (L.map Subtype.val) := fun i hi h0 => by
 rw [List.length_map] at hi
 rw [List.getElem_map, List.getElem_map]
 exact h i hi h0
theorem low_lt {L : List Ky} {u : Ky} (hs : Srt (L.map Subtype.val)) (h : u.1 ∈ L.map Subtype.val) : low (L.map Subtype.val) u.1 < L.length := by
 obtain ⟨j, hj, e⟩ := List.getElem_of_mem h
 have hlow : low (L.map Subtype.val) u.1 = j := by
  refine low_eq (Nat.le_of_lt hj) (fun q hq hqj => ?_) (fun q hq hqj => ?_)
  ·rw [← e]; exact cmpL_chain hs j q hj hqj
  ·rw [← e]
   rcases Nat.lt_or_eq_of_le hqj with h1 | h1
   ·have h2 := cmpL_chain hs q j hq h1
    have h3 := cmpL_neg (L.map Subtype.val)[q] (L.map Subtype.val)[j]
    omega
   ·subst h1; rw [cmpL_self]; exact Int.le_refl _
 rw [List.length_map] at hj
 omega
theorem K_dropW {B g least : Nat} {u : Ky} {S : Stt} (w : World) (hS : StAt w B g S) (hl : S.2.1.length ≤ 100000) (hs : IncK S.2.1) (hle : least ≤ 100) :
  CallsR Tryz.prog 125 [.pointer (some ⟨g, 0 + 1, none⟩), .agg (B8 u.1).toArray, .int .i64 (least : Int)] w fun v w' => v = .bool (dropS S.2.1 u least).2 ∧ StAt w' B g (S.1, (dropS S.2.1 u least).1, S.2.2) ∧ StCh B g w w' := by
 have hS0 := hS
 obtain ⟨I, X, Y⟩ := S
 obtain ⟨A, ca, A2, c2, A3, c3, f0, f1, f2, f3, q7, q8⟩ := hS.ex
 dsimp only at f0 f1 f2 f3 hl hs ⊢
 have hsr := hs.srt
 unfold dropS
 refine callsR Tryz.func125 rfl rfl (by kernel_rfl) rfl ?_
 have hw := Below.refl w.heap.size w
 by_cases h : u.1 ∈ X.map Subtype.val
 ·have hu : u ∈ X := (mem_val u X).1 h
  have hkl := low_lt hsr h
  by_cases h2 : X.length ≤ least
  ·rw [if_pos (.inr h2)]
   refine zs ?_
   refine wl_boxg _ rfl (by rfl) ?_
   rintro g4 w4 f4 b4 i4 i4_1
   have s4 := b4.size
   replace hw := hw.trans (b4.mono hw.size)
   refine za rfl (wl_nil (rk_seq ?_))
   refine rk_draw (id := 1) (none) [0, 1, 2, 0, 12, 16, 32, 32, 127, 511] [0, 1, 3, 0, 15, 31, 63, 63, 127, 511] 16 0 [(.p, 0), (.p, 1), (.r, 2), (.r, 3), (.l, 4), (.p, 5), (.p, 6), (.p, 7), (.p, 8), (.p, 9)] (by kernel_rfl) (by kernel_rfl) (by kernel_rfl) (by kernel_rfl) (by kernel_rfl) ?_
   replace hw := hw.drew
   replace f4 := f4.d
   refine zm rfl ?_
   refine zp (o_nil rfl) ?_
   refine wl_r (o_loadbg Tryz.isAgg29 rfl (f0.u hw) (by rfl)) ?_
   refine wl_r (o_ldKyB rfl f4) ?_
   refine wl_call rfl (C_bsK _ (f2.u hw).to_RKs rfl (by omega) (by omega)) ?_
   rintro v14 w14 ⟨rfl, b14⟩
   simp only [drew_size] at b14
   have s14 := b14.size
   simp only [drew_size] at s14
   replace hw := hw.trans (b14.mono hw.size)
   replace f4 := f4.u b14
   refine zm rfl ?_
   refine zp (o_ext20 rfl) ?_
   refine zp (o_ext21 rfl) ?_
   refine za rfl (za rfl ?_)
   refine wl_nild ?_
   refine rk_seq (zs (zm rfl ?_))
   refine zp (o_not rfl) ?_
   refine zm rfl ?_
   rw [decide_eq_true h]
   refine zm rfl ?_
   refine zp (o_nil rfl) ?_
   refine wl_r (o_loadbg Tryz.isAgg29 rfl (f0.u hw) (by rfl)) ?_
   refine zp (o_len (t := 29) Tryz.underlying29 rfl) ?_
   refine zm rfl ?_
   refine zp (o_le rfl rfl) ?_
   refine zp (o_pick_f rfl rfl) ?_
   refine wl_nil ?_
   refine rk_if rfl (fun h26 => ?_) (fun h26 => h26.elim (by omega))
   refine zs (za rfl (wl_nil ?_))
   refine ret1 rfl rfl ?_
   exact ⟨rfl, hS0.same hw⟩
  ·rw [if_neg (fun e => e.elim (fun e => e hu) h2)]
   refine zs ?_
   refine wl_boxg _ rfl (by rfl) ?_
   rintro g4 w4 f4 b4 i4 i4_1
   have s4 := b4.size
   replace hw := hw.trans (b4.mono hw.size)
   refine za rfl (wl_nil (rk_seq ?_))
   refine rk_draw (id := 1) (none) [0, 1, 2, 0, 12, 16, 32, 32, 127, 511] [0, 1, 3, 0, 15, 31, 63, 63, 127, 511] 16 0 [(.p, 0), (.p, 1), (.r, 2), (.r, 3), (.l, 4), (.p, 5), (.p, 6), (.p, 7), (.p, 8), (.p, 9)] (by kernel_rfl) (by kernel_rfl) (by kernel_rfl) (by kernel_rfl) (by kernel_rfl) ?_
   replace hw := hw.drew
   replace f4 := f4.d
   refine zm rfl ?_
   refine zp (o_nil rfl) ?_
   refine wl_r (o_loadbg Tryz.isAgg29 rfl (f0.u hw) (by rfl)) ?_
   refine wl_r (o_ldKyB rfl f4) ?_
   refine wl_call rfl (C_bsK _ (f2.u hw).to_RKs rfl (by omega) (by omega)) ?_
   rintro v14 w14 ⟨rfl, b14⟩
   simp only [drew_size] at b14
   have s14 := b14.size
   simp only [drew_size] at s14
   replace hw := hw.trans (b14.mono hw.size)
   replace f4 := f4.u b14
   refine zm rfl ?_
   refine zp (o_ext20 rfl) ?_
   refine zp (o_ext21 rfl) ?_
   refine za rfl (za rfl ?_)
   refine wl_nild ?_
   refine rk_seq (zs (zm rfl ?_))
   refine zp (o_not rfl) ?_
   refine zm rfl ?_
   rw [decide_eq_true h]
   refine zm rfl ?_
   refine zp (o_nil rfl) ?_
   refine wl_r (o_loadbg Tryz.isAgg29 rfl (f0.u hw) (by rfl)) ?_
   refine zp (o_len (t := 29) Tryz.underlying29 rfl) ?_
   refine zm rfl ?_
   refine zp (o_le rfl rfl) ?_
   refine zp (o_pick_f rfl rfl) ?_
   refine wl_nil ?_
   refine rk_if rfl (fun h26 => absurd h26 (by omega)) (fun h26 => ?_)
   refine rk_skip (zs (zm rfl (zm rfl ?_)))
   refine zp (o_nil rfl) ?_
   refine wl_r (o_loadbg Tryz.isAgg29 rfl (f0.u hw) (by rfl)) ?_
   refine zm rfl (zm rfl ?_)
   refine zp (o_add rfl rfl (by omega) (by omega)) ?_
   refine wl_call rfl (K_delK w14 (f2.u hw) rfl rfl rfl hl hkl (by have := hw.size; omega)) ?_
   rintro _ w34 ⟨rfl, f34, g34, b34⟩
   have f0b := (f0.u hw).y g34 (by decide)
   have f1b := (f1.u hw).y g34 (by decide)
   have fob := (f3.u hw).keepNe g34 (fun k hk e => q7 k e hk)
   have hcg : Chg g (g + 1) w34 w34 := Chg.refl
   have hst := f0b.at_
   have hws := hw.size
   have hgs := g34.size
   have hw14 := hw
   clear hw
   refine zp (o_nil rfl) ?_
   refine wl_storeg1 Tryz.sizeOf29 rfl rfl (by rfl) f0b (by simp) ?_
   rintro w_1 f g_1 e
   have s := g_1.size
   replace hcg := hcg.trans (Chg.of_g1 g_1.g (by omega) (by omega))
   replace fob := fob.y g_1 (by decide)
   replace f1b := f1b.y g_1 (by decide)
   replace f34 := f34.y g_1 (by decide)
   clear f0b
   refine wl_nil (zs (za rfl (wl_nil ?_)))
   refine ret1 rfl rfl ?_
   have hcs := hcg.size
   exact ⟨rfl, ⟨A, ca, A2, c2, A3, c3, f, f1b.base (Nat.le_refl _) (by omega), f34.base (Nat.le_refl _) (by omega), fob.base (Nat.le_refl _) (by omega), q7, by omega⟩, ⟨w14, w34, none, blk A2, Grew.none_ hw14, g34, Grew.of_chg1 hcg hst, fun k hk => (by cases hk), fun k hk => (f2.rng k hk).1⟩⟩
 ·rw [if_pos (.inl (fun e => h ((mem_val u X).2 e)))]
  refine zs ?_
  refine wl_boxg _ rfl (by rfl) ?_
  rintro g4 w4 f4 b4 i4 i4_1
  have s4 := b4.size
  replace hw := hw.trans (b4.mono hw.size)
  refine za rfl (wl_nil (rk_seq ?_))
  refine rk_draw (id := 1) (none) [0, 1, 2, 0, 12, 16, 32, 32, 127, 511] [0, 1, 3, 0, 15, 31, 63, 63, 127, 511] 16 0 [(.p, 0), (.p, 1), (.r, 2), (.r, 3), (.l, 4), (.p, 5), (.p, 6), (.p, 7), (.p, 8), (.p, 9)] (by kernel_rfl) (by kernel_rfl) (by kernel_rfl) (by kernel_rfl) (by kernel_rfl) ?_
  replace hw := hw.drew
  replace f4 := f4.d
  refine zm rfl ?_
  refine zp (o_nil rfl) ?_
  refine wl_r (o_loadbg Tryz.isAgg29 rfl (f0.u hw) (by rfl)) ?_
  refine wl_r (o_ldKyB rfl f4) ?_
  refine wl_call rfl (C_bsK _ (f2.u hw).to_RKs rfl (by omega) (by omega)) ?_
  rintro v14 w14 ⟨rfl, b14⟩
  simp only [drew_size] at b14
  have s14 := b14.size
  simp only [drew_size] at s14
  replace hw := hw.trans (b14.mono hw.size)
  replace f4 := f4.u b14
  refine zm rfl ?_
  refine zp (o_ext20 rfl) ?_
  refine zp (o_ext21 rfl) ?_
  refine za rfl (za rfl ?_)
  refine wl_nild ?_
  refine rk_seq (zs (zm rfl ?_))
  refine zp (o_not rfl) ?_
  refine zm rfl ?_
  rw [decide_eq_false h]
  refine wl_off (wl_off (wl_off (wl_off (wl_off (wl_off ?_)))))
  refine zp (o_pick_t rfl rfl) ?_
  refine wl_nil ?_
  refine rk_true rfl ?_
  refine zs (za rfl (wl_nil ?_))
  refine ret1 rfl rfl ?_
  exact ⟨rfl, hS0.same hw⟩
theorem K_addW {B g most : Nat} {u : Ky} {S : Stt} (w : World) (hS : StAt w B g S) (hl : S.2.1.length ≤ 100000) (hs : IncK S.2.1) (hle : most ≤ 100) :
  CallsR Tryz.prog 124 [.pointer (some ⟨g, 0 + 1, none⟩), .agg (B8 u.1).toArray, .int .i64 (most : Int)] w fun v w' => v = .bool (addS S.2.1 u most).2 ∧ StAt w' B g (S.1, (addS S.2.1 u most).1, S.2.2) ∧ StCh B g w w' := by
 have hS0 := hS
 obtain ⟨I, X, Y⟩ := S
 obtain ⟨A, ca, A2, c2, A3, c3, f0, f1, f2, f3, q7, q8⟩ := hS.ex
 dsimp only at f0 f1 f2 f3 hl hs ⊢
 have hsr := hs.srt
 unfold addS
 refine callsR Tryz.func124 rfl rfl (by kernel_rfl) rfl ?_
 have hw := Below.refl w.heap.size w
 by_cases h : u.1 ∈ X.map Subtype.val
 ·rw [if_pos (.inl ((mem_val u X).1 h))]
  refine zs ?_
  refine wl_boxg _ rfl (by rfl) ?_
  rintro g4 w4 f4 b4 i4 i4_1
  have s4 := b4.size
  replace hw := hw.trans (b4.mono hw.size)
  refine za rfl (wl_nil (rk_seq ?_))
  refine rk_draw (id := 1) (none) [0, 1, 2, 0, 12, 16, 32, 32, 127, 511] [0, 1, 3, 0, 15, 31, 63, 63, 127, 511] 16 0 [(.p, 0), (.p, 1), (.r, 2), (.r, 3), (.l, 4), (.p, 5), (.p, 6), (.p, 7), (.p, 8), (.p, 9)] (by kernel_rfl) (by kernel_rfl) (by kernel_rfl) (by kernel_rfl) (by kernel_rfl) ?_
  replace hw := hw.drew
  replace f4 := f4.d
  refine zm rfl ?_
  refine zp (o_nil rfl) ?_
  refine wl_r (o_loadbg Tryz.isAgg29 rfl (f0.u hw) (by rfl)) ?_
  refine wl_r (o_ldKyB rfl f4) ?_
  refine wl_call rfl (C_bsK _ (f2.u hw).to_RKs rfl (by omega) (by omega)) ?_
  rintro v14 w14 ⟨rfl, b14⟩
  simp only [drew_size] at b14
  have s14 := b14.size
  simp only [drew_size] at s14
  replace hw := hw.trans (b14.mono hw.size)
  replace f4 := f4.u b14
  refine zm rfl ?_
  refine zp (o_ext20 rfl) ?_
  refine zp (o_ext21 rfl) ?_
  refine za rfl (za rfl ?_)
  refine wl_nild ?_
  refine rk_seq (zs (zm rfl (zm rfl ?_)))
  refine wl_know 18 true rfl (decide_eq_true (by omega)) ?_
  refine wl_off (wl_off (wl_off (wl_off (wl_off (wl_off ?_)))))
  refine zp (o_pick_t rfl rfl) ?_
  refine wl_nil ?_
  refine rk_true rfl ?_
  refine zs (za rfl (wl_nil ?_))
  rw [decide_eq_true h]
  refine ret1 rfl rfl ?_
  exact ⟨rfl, hS0.same hw⟩
 ·have hu : u ∉ X := fun e => h ((mem_val u X).2 e)
  have hkl : low (X.map Subtype.val) u.1 ≤ X.length := by have := low_le (X.map Subtype.val) u.1; rwa [List.length_map] at this
  by_cases h2 : most ≤ X.length
  ·rw [if_pos (.inr h2)]
   refine zs ?_
   refine wl_boxg _ rfl (by rfl) ?_
   rintro g4 w4 f4 b4 i4 i4_1
   have s4 := b4.size
   replace hw := hw.trans (b4.mono hw.size)
   refine za rfl (wl_nil (rk_seq ?_))
   refine rk_draw (id := 1) (none) [0, 1, 2, 0, 12, 16, 32, 32, 127, 511] [0, 1, 3, 0, 15, 31, 63, 63, 127, 511] 16 0 [(.p, 0), (.p, 1), (.r, 2), (.r, 3), (.l, 4), (.p, 5), (.p, 6), (.p, 7), (.p, 8), (.p, 9)] (by kernel_rfl) (by kernel_rfl) (by kernel_rfl) (by kernel_rfl) (by kernel_rfl) ?_
   replace hw := hw.drew
   replace f4 := f4.d
   refine zm rfl ?_
   refine zp (o_nil rfl) ?_
   refine wl_r (o_loadbg Tryz.isAgg29 rfl (f0.u hw) (by rfl)) ?_
   refine wl_r (o_ldKyB rfl f4) ?_
   refine wl_call rfl (C_bsK _ (f2.u hw).to_RKs rfl (by omega) (by omega)) ?_
   rintro v14 w14 ⟨rfl, b14⟩
   simp only [drew_size] at b14
   have s14 := b14.size
   simp only [drew_size] at s14
   replace hw := hw.trans (b14.mono hw.size)
   replace f4 := f4.u b14
   refine zm rfl ?_
   refine zp (o_ext20 rfl) ?_
   refine zp (o_ext21 rfl) ?_
   refine za rfl (za rfl ?_)
   refine wl_nild ?_
   refine rk_seq (zs (zm rfl (zm rfl ?_)))
   refine wl_know 18 false rfl (decide_eq_false (by omega)) ?_
   refine zm rfl ?_
   refine zp (o_nil rfl) ?_
   refine wl_r (o_loadbg Tryz.isAgg29 rfl (f0.u hw) (by rfl)) ?_
   refine zp (o_len (t := 29) Tryz.underlying29 rfl) ?_
   refine zm rfl ?_
   refine zp (o_ge rfl rfl) ?_
   refine zp (o_pick_f rfl rfl) ?_
   refine wl_nil ?_
   refine rk_if rfl (fun h25 => ?_) (fun h25 => h25.elim (by omega))
   refine zs (za rfl (wl_nil ?_))
   rw [decide_eq_false h]
   refine ret1 rfl rfl ?_
   exact ⟨rfl, hS0.same hw⟩
  ·rw [if_neg (fun e => e.elim hu h2)]
   refine zs ?_
   refine wl_boxg _ rfl (by rfl) ?_
   rintro g4 w4 f4 b4 i4 i4_1
   have s4 := b4.size
   replace hw := hw.trans (b4.mono hw.size)
   refine za rfl (wl_nil (rk_seq ?_))
   refine rk_draw (id := 1) (none) [0, 1, 2, 0, 12, 16, 32, 32, 127, 511] [0, 1, 3, 0, 15, 31, 63, 63, 127, 511] 16 0 [(.p, 0), (.p, 1), (.r, 2), (.r, 3), (.l, 4), (.p, 5), (.p, 6), (.p, 7), (.p, 8), (.p, 9)] (by kernel_rfl) (by kernel_rfl) (by kernel_rfl) (by kernel_rfl) (by kernel_rfl) ?_
   replace hw := hw.drew
   replace f4 := f4.d
   refine zm rfl ?_
   refine zp (o_nil rfl) ?_
   refine wl_r (o_loadbg Tryz.isAgg29 rfl (f0.u hw) (by rfl)) ?_
   refine wl_r (o_ldKyB rfl f4) ?_
   refine wl_call rfl (C_bsK _ (f2.u hw).to_RKs rfl (by omega) (by omega)) ?_
   rintro v14 w14 ⟨rfl, b14⟩
   simp only [drew_size] at b14
   have s14 := b14.size
   simp only [drew_size] at s14
   replace hw := hw.trans (b14.mono hw.size)
   replace f4 := f4.u b14
   refine zm rfl ?_
   refine zp (o_ext20 rfl) ?_
   refine zp (o_ext21 rfl) ?_
   refine za rfl (za rfl ?_)
   refine wl_nild ?_
   refine rk_seq (zs (zm rfl (zm rfl ?_)))
   refine wl_know 18 false rfl (decide_eq_false (by omega)) ?_
   refine zm rfl ?_
   refine zp (o_nil rfl) ?_
   refine wl_r (o_loadbg Tryz.isAgg29 rfl (f0.u hw) (by rfl)) ?_
   refine zp (o_len (t := 29) Tryz.underlying29 rfl) ?_
   refine zm rfl ?_
   refine zp (o_ge rfl rfl) ?_
   refine zp (o_pick_f rfl rfl) ?_
   refine wl_nil ?_
   refine rk_if rfl (fun h25 => absurd h25 (by omega)) (fun h25 => ?_)
   refine rk_skip (rk_seq ?_)
   refine rk_draw (id := 4) (none) [0, 0, 2, 4, 0, 0, 32, 88, 255, 511] [0, 0, 2, 6, 0, 0, 32, 126, 255, 511] 704 64 [(.p, 0), (.p, 1), (.p, 2), (.s, 3), (.p, 4), (.r, 5), (.c, 6), (.l, 7), (.p, 8), (.l, 9)] (by kernel_rfl) (by kernel_rfl) (by kernel_rfl) (by kernel_rfl) (by kernel_rfl) ?_
   replace hw := hw.drew
   replace f4 := f4.d
   refine zm rfl (zm rfl ?_)
   refine zp (o_nil rfl) ?_
   refine wl_s (fun _ hk => (o_loadbg Tryz.isAgg29 rfl ((f0.u hw).u (below_of_grown_none hk)) (by rfl))) ?_
   refine zm rfl ?_
   refine wl_r (o_ldKyB rfl f4) ?_
   refine wl_litKs1 (by rfl) rfl (by rfl) ?_
   rintro A32 w32 f32 b32
   simp only [drew_size] at f32
   simp only [drew_size] at b32
   have qf32 := f32.cap
   have s32 := b32.size
   simp only [drew_size] at s32
   replace hw := hw.trans (b32.mono hw.size)
   replace f4 := f4.u b32
   rw [decide_eq_false h]
   refine wl_call rfl (K_insK w32 (f2.u hw) f32 (by have := hw.size; omega) rfl rfl hkl hl (by have := hw.size; omega)) ?_
   rintro _ w33 ⟨A33, c33, rfl, f33, g33, b33, t33⟩
   have f0b := (f0.u hw).y g33 (by decide)
   have f1b := (f1.u hw).y g33 (by decide)
   have fob := (f3.u hw).keepNe g33 (fun k hk e => q7 k e hk)
   have hcg : Chg g (g + 1) w33 w33 := Chg.refl
   have hst := f0b.at_
   have hws := hw.size
   have hgs := g33.size
   have hw14 := hw
   have q9 : ∀ k, blk A33 = some k → blk A3 ≠ some k := fun k hk e => by
    rcases t33 with t | t
    ·rw [t] at hk; exact q7 k hk e
    ·have h5 := t k hk
     have h6 := (f3.rng k e).2
     omega
   clear hw f32
   refine zp (o_nil rfl) ?_
   refine wl_storeg1 Tryz.sizeOf29 rfl rfl (by rfl) f0b (by simp) ?_
   rintro w_1 f g_1 e
   have s := g_1.size
   replace hcg := hcg.trans (Chg.of_g1 g_1.g (by omega) (by omega))
   replace fob := fob.y g_1 (by decide)
   replace f1b := f1b.y g_1 (by decide)
   replace f33 := f33.y g_1 (by decide)
   clear f0b
   refine wl_nild ?_
   refine zs (za rfl (wl_nil ?_))
   refine ret1 rfl rfl ?_
   have hcs := hcg.size
   exact ⟨rfl, ⟨A, ca, A33, c33, A3, c3, f, f1b.base (Nat.le_refl _) (by omega), f33.base (Nat.le_refl _) (by omega), fob.base (Nat.le_refl _) (by omega), q9, by omega⟩, ⟨w32, w33, none, blk A2, Grew.none_ hw14, g33, Grew.of_chg1 hcg hst, fun k hk => (by cases hk), fun k hk => (f2.rng k hk).1⟩⟩
theorem K_dropX {B g least : Nat} {u : Ky} {S : Stt} (w : World) (hS : StAt w B g S) (hl : S.2.2.length ≤ 100000) (hs : IncK S.2.2) (hle : least ≤ 100) :
  CallsR Tryz.prog 125 [.pointer (some ⟨g, 0 + 2, none⟩), .agg (B8 u.1).toArray, .int .i64 (least : Int)] w fun v w' => v = .bool (dropS S.2.2 u least).2 ∧ StAt w' B g (S.1, S.2.1, (dropS S.2.2 u least).1) ∧ StCh B g w w' := by
 have hS0 := hS
 obtain ⟨I, X, Y⟩ := S
 obtain ⟨A, ca, A2, c2, A3, c3, f0, f1, f2, f3, q7, q8⟩ := hS.ex
 dsimp only at f0 f1 f2 f3 hl hs ⊢
 have hsr := hs.srt
 unfold dropS
 refine callsR Tryz.func125 rfl rfl (by kernel_rfl) rfl ?_
 have hw := Below.refl w.heap.size w
 by_cases h : u.1 ∈ Y.map Subtype.val
 ·have hu : u ∈ Y := (mem_val u Y).1 h
  have hkl := low_lt hsr h
  by_cases h2 : Y.length ≤ least
  ·rw [if_pos (.inr h2)]
   refine zs ?_
   refine wl_boxg _ rfl (by rfl) ?_
   rintro g4 w4 f4 b4 i4 i4_1
   have s4 := b4.size
   replace hw := hw.trans (b4.mono hw.size)
   refine za rfl (wl_nil (rk_seq ?_))
   refine rk_draw (id := 1) (none) [0, 1, 2, 0, 12, 16, 32, 32, 127, 511] [0, 1, 3, 0, 15, 31, 63, 63, 127, 511] 16 0 [(.p, 0), (.p, 1), (.r, 2), (.r, 3), (.l, 4), (.p, 5), (.p, 6), (.p, 7), (.p, 8), (.p, 9)] (by kernel_rfl) (by kernel_rfl) (by kernel_rfl) (by kernel_rfl) (by kernel_rfl) ?_
   replace hw := hw.drew
   replace f4 := f4.d
   refine zm rfl ?_
   refine zp (o_nil rfl) ?_
   refine wl_r (o_loadbg Tryz.isAgg29 rfl (f0.u hw) (by rfl)) ?_
   refine wl_r (o_ldKyB rfl f4) ?_
   refine wl_call rfl (C_bsK _ (f3.u hw).to_RKs rfl (by omega) (by omega)) ?_
   rintro v14 w14 ⟨rfl, b14⟩
   simp only [drew_size] at b14
   have s14 := b14.size
   simp only [drew_size] at s14
   replace hw := hw.trans (b14.mono hw.size)
   replace f4 := f4.u b14
   refine zm rfl ?_
   refine zp (o_ext20 rfl) ?_
   refine zp (o_ext21 rfl) ?_
   refine za rfl (za rfl ?_)
   refine wl_nild ?_
   refine rk_seq (zs (zm rfl ?_))
   refine zp (o_not rfl) ?_
   refine zm rfl ?_
   rw [decide_eq_true h]
   refine zm rfl ?_
   refine zp (o_nil rfl) ?_
   refine wl_r (o_loadbg Tryz.isAgg29 rfl (f0.u hw) (by rfl)) ?_
   refine zp (o_len (t := 29) Tryz.underlying29 rfl) ?_
   refine zm rfl ?_
   refine zp (o_le rfl rfl) ?_
   refine zp (o_pick_f rfl rfl) ?_
   refine wl_nil ?_
   refine rk_if rfl (fun h26 => ?_) (fun h26 => h26.elim (by omega))
   refine zs (za rfl (wl_nil ?_))
   refine ret1 rfl rfl ?_
   exact ⟨rfl, hS0.same hw⟩
  ·rw [if_neg (fun e => e.elim (fun e => e hu) h2)]
   refine zs ?_
   refine wl_boxg _ rfl (by rfl) ?_
   rintro g4 w4 f4 b4 i4 i4_1
   have s4 := b4.size
   replace hw := hw.trans (b4.mono hw.size)
   refine za rfl (wl_nil (rk_seq ?_))
   refine rk_draw (id := 1) (none) [0, 1, 2, 0, 12, 16, 32, 32, 127, 511] [0, 1, 3, 0, 15, 31, 63, 63, 127, 511] 16 0 [(.p, 0), (.p, 1), (.r, 2), (.r, 3), (.l, 4), (.p, 5), (.p, 6), (.p, 7), (.p, 8), (.p, 9)] (by kernel_rfl) (by kernel_rfl) (by kernel_rfl) (by kernel_rfl) (by kernel_rfl) ?_
   replace hw := hw.drew
   replace f4 := f4.d
   refine zm rfl ?_
   refine zp (o_nil rfl) ?_
   refine wl_r (o_loadbg Tryz.isAgg29 rfl (f0.u hw) (by rfl)) ?_
   refine wl_r (o_ldKyB rfl f4) ?_
   refine wl_call rfl (C_bsK _ (f3.u hw).to_RKs rfl (by omega) (by omega)) ?_
   rintro v14 w14 ⟨rfl, b14⟩
   simp only [drew_size] at b14
   have s14 := b14.size
   simp only [drew_size] at s14
   replace hw := hw.trans (b14.mono hw.size)
   replace f4 := f4.u b14
   refine zm rfl ?_
   refine zp (o_ext20 rfl) ?_
   refine zp (o_ext21 rfl) ?_
   refine za rfl (za rfl ?_)
   refine wl_nild ?_
   refine rk_seq (zs (zm rfl ?_))
   refine zp (o_not rfl) ?_
   refine zm rfl ?_
   rw [decide_eq_true h]
   refine zm rfl ?_
   refine zp (o_nil rfl) ?_
   refine wl_r (o_loadbg Tryz.isAgg29 rfl (f0.u hw) (by rfl)) ?_
   refine zp (o_len (t := 29) Tryz.underlying29 rfl) ?_
   refine zm rfl ?_
   refine zp (o_le rfl rfl) ?_
   refine zp (o_pick_f rfl rfl) ?_
   refine wl_nil ?_
   refine rk_if rfl (fun h26 => absurd h26 (by omega)) (fun h26 => ?_)
   refine rk_skip (zs (zm rfl (zm rfl ?_)))
   refine zp (o_nil rfl) ?_
   refine wl_r (o_loadbg Tryz.isAgg29 rfl (f0.u hw) (by rfl)) ?_
   refine zm rfl (zm rfl ?_)
   refine zp (o_add rfl rfl (by omega) (by omega)) ?_
   refine wl_call rfl (K_delK w14 (f3.u hw) rfl rfl rfl hl hkl (by have := hw.size; omega)) ?_
   rintro _ w34 ⟨rfl, f34, g34, b34⟩
   have f0b := (f0.u hw).y g34 (by decide)
   have f1b := (f1.u hw).y g34 (by decide)
   have fob := (f2.u hw).keepNe g34 q7
   have hcg : Chg g (g + 1) w34 w34 := Chg.refl
   have hst := f0b.at_
   have hws := hw.size
   have hgs := g34.size
   have hw14 := hw
   clear hw
   refine zp (o_nil rfl) ?_
   refine wl_storeg1 Tryz.sizeOf29 rfl rfl (by rfl) f0b (by simp) ?_
   rintro w_1 f g_1 e
   have s := g_1.size
   replace hcg := hcg.trans (Chg.of_g1 g_1.g (by omega) (by omega))
   replace fob := fob.y g_1 (by decide)
   replace f1b := f1b.y g_1 (by decide)
   replace f34 := f34.y g_1 (by decide)
   clear f0b
   refine wl_nil (zs (za rfl (wl_nil ?_)))
   refine ret1 rfl rfl ?_
   have hcs := hcg.size
   exact ⟨rfl, ⟨A, ca, A2, c2, A3, c3, f, f1b.base (Nat.le_refl _) (by omega), fob.base (Nat.le_refl _) (by omega), f34.base (Nat.le_refl _) (by omega), q7, by omega⟩, ⟨w14, w34, none, blk A3, Grew.none_ hw14, g34, Grew.of_chg1 hcg hst, fun k hk => (by cases hk), fun k hk => (f3.rng k hk).1⟩⟩
 ·rw [if_pos (.inl (fun e => h ((mem_val u Y).2 e)))]
  refine zs ?_
  refine wl_boxg _ rfl (by rfl) ?_
  rintro g4 w4 f4 b4 i4 i4_1
  have s4 := b4.size
  replace hw := hw.trans (b4.mono hw.size)
  refine za rfl (wl_nil (rk_seq ?_))
  refine rk_draw (id := 1) (none) [0, 1, 2, 0, 12, 16, 32, 32, 127, 511] [0, 1, 3, 0, 15, 31, 63, 63, 127, 511] 16 0 [(.p, 0), (.p, 1), (.r, 2), (.r, 3), (.l, 4), (.p, 5), (.p, 6), (.p, 7), (.p, 8), (.p, 9)] (by kernel_rfl) (by kernel_rfl) (by kernel_rfl) (by kernel_rfl) (by kernel_rfl) ?_
  replace hw := hw.drew
  replace f4 := f4.d
  refine zm rfl ?_
  refine zp (o_nil rfl) ?_
  refine wl_r (o_loadbg Tryz.isAgg29 rfl (f0.u hw) (by rfl)) ?_
  refine wl_r (o_ldKyB rfl f4) ?_
  refine wl_call rfl (C_bsK _ (f3.u hw).to_RKs rfl (by omega) (by omega)) ?_
  rintro v14 w14 ⟨rfl, b14⟩
  simp only [drew_size] at b14
  have s14 := b14.size
  simp only [drew_size] at s14
  replace hw := hw.trans (b14.mono hw.size)
  replace f4 := f4.u b14
  refine zm rfl ?_
  refine zp (o_ext20 rfl) ?_
  refine zp (o_ext21 rfl) ?_
  refine za rfl (za rfl ?_)
  refine wl_nild ?_
  refine rk_seq (zs (zm rfl ?_))
  refine zp (o_not rfl) ?_
  refine zm rfl ?_
  rw [decide_eq_false h]
  refine wl_off (wl_off (wl_off (wl_off (wl_off (wl_off ?_)))))
  refine zp (o_pick_t rfl rfl) ?_
  refine wl_nil ?_
  refine rk_true rfl ?_
  refine zs (za rfl (wl_nil ?_))
  refine ret1 rfl rfl ?_
  exact ⟨rfl, hS0.same hw⟩
theorem K_addX {B g most : Nat} {u : Ky} {S : Stt} (w : World) (hS : StAt w B g S) (hl : S.2.2.length ≤ 100000) (hs : IncK S.2.2) (hle : most ≤ 100) :
  CallsR Tryz.prog 124 [.pointer (some ⟨g, 0 + 2, none⟩), .agg (B8 u.1).toArray, .int .i64 (most : Int)] w fun v w' => v = .bool (addS S.2.2 u most).2 ∧ StAt w' B g (S.1, S.2.1, (addS S.2.2 u most).1) ∧ StCh B g w w' := by
 have hS0 := hS
 obtain ⟨I, X, Y⟩ := S
 obtain ⟨A, ca, A2, c2, A3, c3, f0, f1, f2, f3, q7, q8⟩ := hS.ex
 dsimp only at f0 f1 f2 f3 hl hs ⊢
 have hsr := hs.srt
 unfold addS
 refine callsR Tryz.func124 rfl rfl (by kernel_rfl) rfl ?_
 have hw := Below.refl w.heap.size w
 by_cases h : u.1 ∈ Y.map Subtype.val
 ·rw [if_pos (.inl ((mem_val u Y).1 h))]
  refine zs ?_
  refine wl_boxg _ rfl (by rfl) ?_
  rintro g4 w4 f4 b4 i4 i4_1
  have s4 := b4.size
  replace hw := hw.trans (b4.mono hw.size)
  refine za rfl (wl_nil (rk_seq ?_))
  refine rk_draw (id := 1) (none) [0, 1, 2, 0, 12, 16, 32, 32, 127, 511] [0, 1, 3, 0, 15, 31, 63, 63, 127, 511] 16 0 [(.p, 0), (.p, 1), (.r, 2), (.r, 3), (.l, 4), (.p, 5), (.p, 6), (.p, 7), (.p, 8), (.p, 9)] (by kernel_rfl) (by kernel_rfl) (by kernel_rfl) (by kernel_rfl) (by kernel_rfl) ?_
  replace hw := hw.drew
  replace f4 := f4.d
  refine zm rfl ?_
  refine zp (o_nil rfl) ?_
  refine wl_r (o_loadbg Tryz.isAgg29 rfl (f0.u hw) (by rfl)) ?_
  refine wl_r (o_ldKyB rfl f4) ?_
  refine wl_call rfl (C_bsK _ (f3.u hw).to_RKs rfl (by omega) (by omega)) ?_
  rintro v14 w14 ⟨rfl, b14⟩
  simp only [drew_size] at b14
  have s14 := b14.size
  simp only [drew_size] at s14
  replace hw := hw.trans (b14.mono hw.size)
  replace f4 := f4.u b14
  refine zm rfl ?_
  refine zp (o_ext20 rfl) ?_
  refine zp (o_ext21 rfl) ?_
  refine za rfl (za rfl ?_)
  refine wl_nild ?_
  refine rk_seq (zs (zm rfl (zm rfl ?_)))
  refine wl_know 18 true rfl (decide_eq_true (by omega)) ?_
  refine wl_off (wl_off (wl_off (wl_off (wl_off (wl_off ?_)))))
  refine zp (o_pick_t rfl rfl) ?_
  refine wl_nil ?_
  refine rk_true rfl ?_
  refine zs (za rfl (wl_nil ?_))
  rw [decide_eq_true h]
  refine ret1 rfl rfl ?_
  exact ⟨rfl, hS0.same hw⟩
 ·have hu : u ∉ Y := fun e => h ((mem_val u Y).2 e)
  have hkl : low (Y.map Subtype.val) u.1 ≤ Y.length := by have := low_le (Y.map Subtype.val) u.1; rwa [List.length_map] at this
  by_cases h2 : most ≤ Y.length
  ·rw [if_pos (.inr h2)]
   refine zs ?_
   refine wl_boxg _ rfl (by rfl) ?_
   rintro g4 w4 f4 b4 i4 i4_1
   have s4 := b4.size
   replace hw := hw.trans (b4.mono hw.size)
   refine za rfl (wl_nil (rk_seq ?_))
   refine rk_draw (id := 1) (none) [0, 1, 2, 0, 12, 16, 32, 32, 127, 511] [0, 1, 3, 0, 15, 31, 63, 63, 127, 511] 16 0 [(.p, 0), (.p, 1), (.r, 2), (.r, 3), (.l, 4), (.p, 5), (.p, 6), (.p, 7), (.p, 8), (.p, 9)] (by kernel_rfl) (by kernel_rfl) (by kernel_rfl) (by kernel_rfl) (by kernel_rfl) ?_
   replace hw := hw.drew
   replace f4 := f4.d
   refine zm rfl ?_
   refine zp (o_nil rfl) ?_
   refine wl_r (o_loadbg Tryz.isAgg29 rfl (f0.u hw) (by rfl)) ?_
   refine wl_r (o_ldKyB rfl f4) ?_
   refine wl_call rfl (C_bsK _ (f3.u hw).to_RKs rfl (by omega) (by omega)) ?_
   rintro v14 w14 ⟨rfl, b14⟩
   simp only [drew_size] at b14
   have s14 := b14.size
   simp only [drew_size] at s14
   replace hw := hw.trans (b14.mono hw.size)
   replace f4 := f4.u b14
   refine zm rfl ?_
   refine zp (o_ext20 rfl) ?_
   refine zp (o_ext21 rfl) ?_
   refine za rfl (za rfl ?_)
   refine wl_nild ?_
   refine rk_seq (zs (zm rfl (zm rfl ?_)))
   refine wl_know 18 false rfl (decide_eq_false (by omega)) ?_
   refine zm rfl ?_
   refine zp (o_nil rfl) ?_
   refine wl_r (o_loadbg Tryz.isAgg29 rfl (f0.u hw) (by rfl)) ?_
   refine zp (o_len (t := 29) Tryz.underlying29 rfl) ?_
   refine zm rfl ?_
   refine zp (o_ge rfl rfl) ?_
   refine zp (o_pick_f rfl rfl) ?_
   refine wl_nil ?_
   refine rk_if rfl (fun h25 => ?_) (fun h25 => h25.elim (by omega))
   refine zs (za rfl (wl_nil ?_))
   rw [decide_eq_false h]
   refine ret1 rfl rfl ?_
   exact ⟨rfl, hS0.same hw⟩
  ·rw [if_neg (fun e => e.elim hu h2)]
   refine zs ?_
   refine wl_boxg _ rfl (by rfl) ?_
   rintro g4 w4 f4 b4 i4 i4_1
   have s4 := b4.size
   replace hw := hw.trans (b4.mono hw.size)
   refine za rfl (wl_nil (rk_seq ?_))
   refine rk_draw (id := 1) (none) [0, 1, 2, 0, 12, 16, 32, 32, 127, 511] [0, 1, 3, 0, 15, 31, 63, 63, 127, 511] 16 0 [(.p, 0), (.p, 1), (.r, 2), (.r, 3), (.l, 4), (.p, 5), (.p, 6), (.p, 7), (.p, 8), (.p, 9)] (by kernel_rfl) (by kernel_rfl) (by kernel_rfl) (by kernel_rfl) (by kernel_rfl) ?_
   replace hw := hw.drew
   replace f4 := f4.d
   refine zm rfl ?_
   refine zp (o_nil rfl) ?_
   refine wl_r (o_loadbg Tryz.isAgg29 rfl (f0.u hw) (by rfl)) ?_
   refine wl_r (o_ldKyB rfl f4) ?_
   refine wl_call rfl (C_bsK _ (f3.u hw).to_RKs rfl (by omega) (by omega)) ?_
   rintro v14 w14 ⟨rfl, b14⟩
   simp only [drew_size] at b14
   have s14 := b14.size
   simp only [drew_size] at s14
   replace hw := hw.trans (b14.mono hw.size)
   replace f4 := f4.u b14
   refine zm rfl ?_
   refine zp (o_ext20 rfl) ?_
   refine zp (o_ext21 rfl) ?_
   refine za rfl (za rfl ?_)
   refine wl_nild ?_
   refine rk_seq (zs (zm rfl (zm rfl ?_)))
   refine wl_know 18 false rfl (decide_eq_false (by omega)) ?_
   refine zm rfl ?_
   refine zp (o_nil rfl) ?_
   refine wl_r (o_loadbg Tryz.isAgg29 rfl (f0.u hw) (by rfl)) ?_
   refine zp (o_len (t := 29) Tryz.underlying29 rfl) ?_
   refine zm rfl ?_
   refine zp (o_ge rfl rfl) ?_
   refine zp (o_pick_f rfl rfl) ?_
   refine wl_nil ?_
   refine rk_if rfl (fun h25 => absurd h25 (by omega)) (fun h25 => ?_)
   refine rk_skip (rk_seq ?_)
   refine rk_draw (id := 4) (none) [0, 0, 2, 4, 0, 0, 32, 88, 255, 511] [0, 0, 2, 6, 0, 0, 32, 126, 255, 511] 704 64 [(.p, 0), (.p, 1), (.p, 2), (.s, 3), (.p, 4), (.r, 5), (.c, 6), (.l, 7), (.p, 8), (.l, 9)] (by kernel_rfl) (by kernel_rfl) (by kernel_rfl) (by kernel_rfl) (by kernel_rfl) ?_
   replace hw := hw.drew
   replace f4 := f4.d
   refine zm rfl (zm rfl ?_)
   refine zp (o_nil rfl) ?_
   refine wl_s (fun _ hk => (o_loadbg Tryz.isAgg29 rfl ((f0.u hw).u (below_of_grown_none hk)) (by rfl))) ?_
   refine zm rfl ?_
   refine wl_r (o_ldKyB rfl f4) ?_
   refine wl_litKs1 (by rfl) rfl (by rfl) ?_
   rintro A32 w32 f32 b32
   simp only [drew_size] at f32
   simp only [drew_size] at b32
   have qf32 := f32.cap
   have s32 := b32.size
   simp only [drew_size] at s32
   replace hw := hw.trans (b32.mono hw.size)
   replace f4 := f4.u b32
   rw [decide_eq_false h]
   refine wl_call rfl (K_insK w32 (f3.u hw) f32 (by have := hw.size; omega) rfl rfl hkl hl (by have := hw.size; omega)) ?_
   rintro _ w33 ⟨A33, c33, rfl, f33, g33, b33, t33⟩
   have f0b := (f0.u hw).y g33 (by decide)
   have f1b := (f1.u hw).y g33 (by decide)
   have fob := (f2.u hw).keepNe g33 q7
   have hcg : Chg g (g + 1) w33 w33 := Chg.refl
   have hst := f0b.at_
   have hws := hw.size
   have hgs := g33.size
   have hw14 := hw
   have q9 : ∀ k, blk A2 = some k → blk A33 ≠ some k := fun k hk e => by
    rcases t33 with t | t
    ·rw [t] at e; exact q7 k hk e
    ·have h5 := t k e
     have h6 := (f2.rng k hk).2
     omega
   clear hw f32
   refine zp (o_nil rfl) ?_
   refine wl_storeg1 Tryz.sizeOf29 rfl rfl (by rfl) f0b (by simp) ?_
   rintro w_1 f g_1 e
   have s := g_1.size
   replace hcg := hcg.trans (Chg.of_g1 g_1.g (by omega) (by omega))
   replace fob := fob.y g_1 (by decide)
   replace f1b := f1b.y g_1 (by decide)
   replace f33 := f33.y g_1 (by decide)
   clear f0b
   refine wl_nild ?_
   refine zs (za rfl (wl_nil ?_))
   refine ret1 rfl rfl ?_
   have hcs := hcg.size
   exact ⟨rfl, ⟨A, ca, A2, c2, A33, c33, f, f1b.base (Nat.le_refl _) (by omega), fob.base (Nat.le_refl _) (by omega), f33.base (Nat.le_refl _) (by omega), q9, by omega⟩, ⟨w32, w33, none, blk A3, Grew.none_ hw14, g33, Grew.of_chg1 hcg hst, fun k hk => (by cases hk), fun k hk => (f3.rng k hk).1⟩⟩
end Go.Proofs.YtahkeoegbjopfaaGreat
namespace Go.Proofs.YtahkeoegbjopfaaGreat
set_option maxRecDepth 100000
open Go.RowKit
theorem part_set {xs : List Value} {m i r : Nat} {v : Value} (hr : r < m) : part (xs.set (i * m + r) v) m i = (part xs m i).set r v := by
 apply List.ext_getElem?
 intro q
 by_cases hq : q < m
 ·rw [part_get hq, List.getElem?_set, List.getElem?_set, part_get hq]
  by_cases h : r = q
  ·subst h
   rw [if_pos rfl, if_pos rfl]
   have hlp : (part xs m i).length = min m (xs.length - i * m) := by unfold part; rw [List.length_take, List.length_drop]
   by_cases h2 : i * m + r < xs.length
   ·have h3 : r < (part xs m i).length := by omega
    simp [h2, h3]
   ·have h3 : ¬ r < (part xs m i).length := by omega
    simp [h2, h3]
  ·rw [if_neg (by omega), if_neg h]
 ·have hl : ∀ ys : List Value, (part ys m i).length ≤ m := fun ys => by unfold part; rw [List.length_take]; omega
  rw [List.getElem?_eq_none (by have := hl (xs.set (i * m + r) v); omega), List.getElem?_eq_none (by rw [List.length_set]; have := hl xs; omega)]
theorem part_set_ne {xs : List Value} {m i j r : Nat} {v : Value} (hr : r < m) (hne : i ≠ j) : part (xs.set (j * m + r) v) m i = part xs m i := by
 apply List.ext_getElem?
 intro q
 by_cases hq : q < m
 ·rw [part_get hq, part_get hq, List.getElem?_set, if_neg]
  intro e
  rcases Nat.lt_or_ge i j with h | h
  ·have : (i + 1) * m ≤ j * m := Nat.mul_le_mul_right _ h
   rw [Nat.add_mul, Nat.one_mul] at this; omega
  ·have : (j + 1) * m ≤ i * m := Nat.mul_le_mul_right _ (by omega)
   rw [Nat.add_mul, Nat.one_mul] at this; omega
 ·have hl : ∀ ys : List Value, (part ys m i).length ≤ m := fun ys => by unfold part; rw [List.length_take]; omega
  rw [List.getElem?_eq_none (by have := hl (xs.set (j * m + r) v); omega), List.getElem?_eq_none (by have := hl xs; omega)]
theorem Pts.setV {w : World} {xs : List Value} {I : List (By × By)} {j d : Nat} {V : Option Addr} {q : By} (h : Pts gItem w xs I) (hj : j < I.length) (hV : RdT w V q) (h5 : q.length ≤ d) (h6 : d ≤ maxLen) : Pts gItem w (xs.set (j * 2 + 1) (.slice V q.length d)) (I.set j (I[j].1, q)) := by
 refine ⟨by rw [List.length_set, List.length_set]; exact h.n, fun i hi => ?_⟩
 rw [List.length_set] at hi
 show gItem.T w (part (xs.set (j * 2 + 1) (.slice V q.length d)) 2 i) _
 rw [List.getElem_set]
 by_cases e : j = i
 ·subst e
  rw [if_pos rfl, part_set (by omega)]
  obtain ⟨c1, c2, e1, ⟨A, c, rfl, hA⟩, A2, c2', rfl, _⟩ := h.t j hj
  rw [show part xs 2 j = [.slice A I[j].1.length c] ++ [.slice A2 I[j].2.length c2'] from e1]
  exact ⟨[.slice A I[j].1.length c], [.slice V q.length d], rfl, ⟨A, c, rfl, hA⟩, V, d, rfl, hV, h5, h6⟩
 ·rw [if_neg e, part_set_ne (by omega) (fun e2 => e e2.symm)]
  exact h.t i hi
section
variable {fn : Func} {F : Ending → World → Prop} {N : Nat} {ks : List K} {ops : Array Oper} {tg : Tags} {l : List Oper} {fr : Fr} {w : World} {ty : TypeId} {pos : String} {aft : Array Edge} {gd : Option (Nat × Bool)} {m d c j lo hi : Nat} {x y : Operand} {A V : Option Addr} {I : List (By × By)} {q : By}
theorem wl_stVal (hx : fr.ev x = some (.pointer (some (adr A (j * 2 + 1))))) (hown : OwnI w lo hi A c I) (hy : fr.ev y = some (.slice V m d)) (hm : m = q.length) (hV : RdT w V q) (h5 : q.length ≤ d) (h6 : d ≤ maxLen) (hj : j < I.length)
  (hk : ∀ w', OwnI w' lo hi A c (I.set j (I[j].1, q)) → Grew w w' 94 (blk A) → w'.heap.size = w.heap.size → WL Tryz.prog fn F N ks ops tg.tail l fr w') (ht : tg.loud = true := by rfl) (hg : onG ops fr gd = true := by rfl) (hq : tg.calm = false ∨ tg.rw.may (blk A) := by exact .inl rfl) :
  WL Tryz.prog fn F N ks ops tg (⟨none, .store 39 x y, ty, pos, aft, gd⟩ :: l) fr w := by
 subst hm
 have hty := hown.ty
 obtain ⟨xs, hrow, hp⟩ := OwnS.pts hown
 have hcm := row_max hrow
 obtain ⟨g, cur, rfl, g1, g2, hB, g3, g4, g5⟩ := hrow.blk_ (by omega)
 have g4' : cur.length = c * 2 := g4
 have ead : adr (some (⟨g, 0, none⟩ : Addr)) (j * 2 + 1) = ⟨g, j * 2 + 1, none⟩ := by simp [adr, add_plain]
 rw [ead] at hx
 obtain ⟨w', hr, hB', hgr, hsz⟩ := run_storeCells_blk (P := Tryz.prog) (o := j * 2 + 1) [.slice V q.length d] 0 cur w hB (fun v hv => by simp only [List.mem_singleton] at hv; subst hv; rfl) (by simp; omega)
 have gg : Grew w w' 94 (some g) := ⟨hgr, hty⟩
 refine wl_u (w' := w') (fun a ha op hop => ?_) (hk w' ?_ gg hsz) ht hg (hq.imp id (Rw.of_may hgr))
 ·have hcs : (Value.slice V q.length d).cells = #[Value.slice V q.length d] := rfl
  simp [execOp, hop, ha.ev hx, ha.ev hy, Instr.storeAt, Instr.sureAddr, storeVar, hcs, Tryz.sizeOf39, hr]
 ·have hpp := (hp.setV hj hV h5 h6).ty gg (by simp [gItem_tys])
  refine hpp.own ?_
  rw [List.length_set]
  have e1 : spl cur (j * 2 + 1 + 0) [.slice V q.length d] = cur.set (j * 2 + 1) (.slice V q.length d) := by
   rw [Nat.add_zero]
   apply List.ext_getElem?
   intro i
   rw [getElem_spl (by simp; omega), List.getElem?_set]
   by_cases h : j * 2 + 1 = i
   ·subst h; simp [show j * 2 + 1 < cur.length by omega]
   ·rw [if_neg h, if_neg (by simp; omega)]
  rw [e1] at hB'
  refine row_of_blk hB' g1 g2 (by rw [List.length_set, g4]) g3 hcm (by rw [List.length_set]; exact hp.n) ?_
  rw [← g5]
  show (cur.set (j * 2 + 1) _).take (I.length * 2) = (cur.take (I.length * 2)).set _ _
  rw [List.take_set]
end
set_option maxRecDepth 100000 in
theorem K_doPut {K V : Option Addr} {p q : By} {n c m d B g : Nat} {k : Int} {u : Ky} {S : Stt} (w : World) (hS : StAt w B g S) (hK : Rd w K p) (hV : Rd w V q) (hn : n = p.length) (hm : m = q.length) (hp : p.length ≤ 4000000) (hq : q.length ≤ 4000000) (hl : S.1.length ≤ 100000) (hL : LtI S.1) (hs : Srt (S.1.map Prod.fst)) :
  CallsR Tryz.prog 72 [.pointer (some ⟨g, 0, none⟩), .agg (opC k K n c V m d u).toArray] w fun v w' => v = .bool (putS S.1 p q).2 ∧ StAt w' B g ((putS S.1 p q).1, S.2) ∧ StCh B g w w' := by
 subst hn; subst hm
 have hS0 := hS
 obtain ⟨I, X, Y⟩ := S
 obtain ⟨A, ca, A2, c2, A3, c3, f0, f1, f2, f3, q7, q8⟩ := hS.ex
 dsimp only at f0 f1 f2 f3 hl hL hs ⊢
 unfold putS
 refine callsR Tryz.func72 rfl rfl (by kernel_rfl) rfl ?_
 have hw := Below.refl w.heap.size w
 by_cases h : p ∈ I.map Prod.fst
 ·rw [if_pos h]
  obtain ⟨hk, e1⟩ := mem_low hs h
  have hA1 : A = some (A.getD ⟨0, 0, none⟩) := (OwnI.to_RI f1).some_ (by omega)
  refine zs ?_
  refine wl_boxg _ rfl (by rfl) ?_
  rintro g3 w3 f3_1 b3 i3 i3_1
  have s3 := b3.size
  replace hw := hw.trans (b3.mono hw.size)
  refine za rfl (wl_nil (rk_seq ?_))
  refine rk_draw (id := 1) (none) [0, 1, 2, 4, 0, 16, 40, 64, 128, 128, 511, 2047] [0, 1, 3, 7, 0, 16, 63, 127, 255, 255, 511, 2047] 64 0 [(.p, 0), (.p, 1), (.p, 2), (.r, 3), (.p, 4), (.r, 5), (.l, 6), (.p, 7), (.p, 8), (.p, 9), (.p, 10), (.p, 11)] (by kernel_rfl) (by kernel_rfl) (by kernel_rfl) (by kernel_rfl) (by kernel_rfl) ?_
  replace hw := hw.drew
  replace f3_1 := f3_1.d
  refine zm rfl ?_
  refine zp (o_nil rfl) ?_
  refine zp (o_faddr (s := 31) (i := 0) (off := 0) Tryz.underlying31 rfl Tryz.sizeOf28 rfl rfl rfl) ?_
  refine wl_r (o_loadbg Tryz.isAgg28 rfl (f0.u hw) (by rfl)) ?_
  refine zp (o_faddr (s := 54) (i := 1) (off := 1) Tryz.underlying54 rfl Tryz.sizeOf39 rfl rfl rfl) ?_
  refine wl_r (o_loadbg Tryz.isAgg39 rfl f3_1 (by rfl)) ?_
  refine wl_call rfl (C_find _ (f1.u hw).to_RI (hK.u hw) rfl rfl (by omega) (by omega) (by omega) (by omega)) ?_
  rintro v14 w14 ⟨rfl, b14⟩
  simp only [drew_size] at b14
  have s14 := b14.size
  simp only [drew_size] at s14
  replace hw := hw.trans (b14.mono hw.size)
  replace f3_1 := f3_1.u b14
  refine zm rfl ?_
  refine zp (o_ext20 rfl) ?_
  refine zp (o_ext21 rfl) ?_
  refine za rfl (za rfl ?_)
  refine wl_nild ?_
  refine rk_seq (zs (zm rfl (wl_nil ?_)))
  refine rk_if rfl (fun h17 => ?_) (fun h17 => h17.elim (by omega))
  refine rk_seq ?_
  refine rk_draw (id := 3) (none) [0, 1, 2, 4, 0, 0, 32, 64, 255, 511, 767] [0, 1, 3, 7, 0, 0, 32, 96, 255, 511, 1023] 1152 128 [(.p, 0), (.p, 1), (.p, 2), (.s, 3), (.p, 4), (.p, 5), (.r, 6), (.c, 7), (.p, 8), (.p, 9), (.l, 10)] (by kernel_rfl) (by kernel_rfl) (by kernel_rfl) (by kernel_rfl) (by kernel_rfl) ?_
  replace hw := hw.drew
  replace f3_1 := f3_1.d
  refine zm rfl ?_
  refine zp (o_nil rfl) ?_
  refine zp (o_faddr (s := 31) (i := 0) (off := 0) Tryz.underlying31 rfl Tryz.sizeOf28 rfl rfl rfl) ?_
  refine wl_s (fun _ hk => (o_loadbg Tryz.isAgg28 rfl ((f0.u hw).u (below_of_grown_none hk)) (by rfl))) ?_
  refine zm rfl ?_
  refine zp (o_faddr (s := 54) (i := 2) (off := 2) Tryz.underlying54 rfl Tryz.sizeOf39 rfl rfl rfl) ?_
  refine wl_r (o_loadbg Tryz.isAgg39 rfl f3_1 (by rfl)) ?_
  refine wl_call rfl (C_bClone _ (hV.u hw) rfl (by omega)) ?_ (hq := .inr fun _ _ h => grown_of_below h.choose_spec.choose_spec.2.2 _)
  rintro v25 w25 ⟨A25, ⟨c25, ⟨rfl, ⟨f25, b25⟩⟩⟩⟩
  simp only [drew_size] at f25
  simp only [drew_size] at b25
  have qf25 := f25.cap
  have s25 := b25.size
  simp only [drew_size] at s25
  replace hw := hw.trans (b25.mono hw.size)
  replace f3_1 := f3_1.u b25
  refine zp (o_iaddrA (low (I.map Prod.fst) p) Tryz.underlying28 Tryz.sizeOf94 rfl rfl rfl hA1 hk) ?_
  refine zp (o_faddrR rfl Tryz.underlying94 (by rfl) Tryz.sizeOf39 (by rfl) (by rfl)) ?_
  refine wl_stVal (I := I) (q := q) rfl (f1.u hw) rfl rfl f25.to_RdT f25.cap (own_max f25) hk ?_
  intro w27 f27 g27 s27
  rw [e1] at f27
  have f0b := (f0.u hw).y g27 (by decide)
  have f2b := (f2.u hw).y g27 (by decide)
  have f3b := (f3.u hw).y g27 (by decide)
  have hws := hw.size
  have hwp := hw
  clear hw f25 f3_1
  refine wl_nild ?_
  refine zs (za rfl (wl_nil ?_))
  refine ret1 rfl rfl ?_
  exact ⟨rfl, ⟨A, ca, A2, c2, A3, c3, by rw [List.length_set]; exact f0b, f27.base (Nat.le_refl _) (by omega), f2b.base (Nat.le_refl _) (by omega), f3b.base (Nat.le_refl _) (by omega), q7, by omega⟩, ⟨w27, w27, blk A, none, Grew.after hwp g27 f1.ty, Grew.none_ (Below.refl _ _), Grew.of_below (Below.refl _ _) f0b.at_, fun k hk => (f1.rng k hk).1, fun k hk => (by cases hk)⟩⟩
 ·rw [if_neg h]
  have hkl : low (I.map Prod.fst) p ≤ I.length := by have := low_le (I.map Prod.fst) p; rwa [List.length_map] at this
  by_cases h2 : 1024 ≤ I.length
  ·rw [if_pos h2]
   refine zs ?_
   refine wl_boxg _ rfl (by rfl) ?_
   rintro g3 w3 f3_1 b3 i3 i3_1
   have s3 := b3.size
   replace hw := hw.trans (b3.mono hw.size)
   refine za rfl (wl_nil (rk_seq ?_))
   refine rk_draw (id := 1) (none) [0, 1, 2, 4, 0, 16, 40, 64, 128, 128, 511, 2047] [0, 1, 3, 7, 0, 16, 63, 127, 255, 255, 511, 2047] 64 0 [(.p, 0), (.p, 1), (.p, 2), (.r, 3), (.p, 4), (.r, 5), (.l, 6), (.p, 7), (.p, 8), (.p, 9), (.p, 10), (.p, 11)] (by kernel_rfl) (by kernel_rfl) (by kernel_rfl) (by kernel_rfl) (by kernel_rfl) ?_
   replace hw := hw.drew
   replace f3_1 := f3_1.d
   refine zm rfl ?_
   refine zp (o_nil rfl) ?_
   refine zp (o_faddr (s := 31) (i := 0) (off := 0) Tryz.underlying31 rfl Tryz.sizeOf28 rfl rfl rfl) ?_
   refine wl_r (o_loadbg Tryz.isAgg28 rfl (f0.u hw) (by rfl)) ?_
   refine zp (o_faddr (s := 54) (i := 1) (off := 1) Tryz.underlying54 rfl Tryz.sizeOf39 rfl rfl rfl) ?_
   refine wl_r (o_loadbg Tryz.isAgg39 rfl f3_1 (by rfl)) ?_
   refine wl_call rfl (C_find _ (f1.u hw).to_RI (hK.u hw) rfl rfl (by omega) (by omega) (by omega) (by omega)) ?_
   rintro v14 w14 ⟨rfl, b14⟩
   simp only [drew_size] at b14
   have s14 := b14.size
   simp only [drew_size] at s14
   replace hw := hw.trans (b14.mono hw.size)
   replace f3_1 := f3_1.u b14
   refine zm rfl ?_
   refine zp (o_ext20 rfl) ?_
   refine zp (o_ext21 rfl) ?_
   refine za rfl (za rfl ?_)
   refine wl_nild ?_
   refine rk_seq (zs (zm rfl (wl_nil ?_)))
   refine rk_if rfl (fun h17 => absurd h17 (by omega)) (fun h17 => ?_)
   refine rk_skip (rk_seq (zs (zm rfl ?_)))
   refine zp (o_nil rfl) ?_
   refine zp (o_faddr (s := 31) (i := 0) (off := 0) Tryz.underlying31 rfl Tryz.sizeOf28 rfl rfl rfl) ?_
   refine wl_r (o_loadbg Tryz.isAgg28 rfl (f0.u hw) (by rfl)) ?_
   refine zp (o_len (t := 28) Tryz.underlying28 rfl) ?_
   refine zp (o_ge rfl rfl) ?_
   refine wl_nil ?_
   refine rk_if rfl (fun h33 => ?_) (fun h33 => h33.elim (by omega))
   refine zs (za rfl (wl_nil ?_))
   refine ret1 rfl rfl ?_
   exact ⟨rfl, hS0.same hw⟩
  ·rw [if_neg h2]
   refine zs ?_
   refine wl_boxg _ rfl (by rfl) ?_
   rintro g3 w3 f3_1 b3 i3 i3_1
   have s3 := b3.size
   replace hw := hw.trans (b3.mono hw.size)
   refine za rfl (wl_nil (rk_seq ?_))
   refine rk_draw (id := 1) (none) [0, 1, 2, 4, 0, 16, 40, 64, 128, 128, 511, 2047] [0, 1, 3, 7, 0, 16, 63, 127, 255, 255, 511, 2047] 64 0 [(.p, 0), (.p, 1), (.p, 2), (.r, 3), (.p, 4), (.r, 5), (.l, 6), (.p, 7), (.p, 8), (.p, 9), (.p, 10), (.p, 11)] (by kernel_rfl) (by kernel_rfl) (by kernel_rfl) (by kernel_rfl) (by kernel_rfl) ?_
   replace hw := hw.drew
   replace f3_1 := f3_1.d
   refine zm rfl ?_
   refine zp (o_nil rfl) ?_
   refine zp (o_faddr (s := 31) (i := 0) (off := 0) Tryz.underlying31 rfl Tryz.sizeOf28 rfl rfl rfl) ?_
   refine wl_r (o_loadbg Tryz.isAgg28 rfl (f0.u hw) (by rfl)) ?_
   refine zp (o_faddr (s := 54) (i := 1) (off := 1) Tryz.underlying54 rfl Tryz.sizeOf39 rfl rfl rfl) ?_
   refine wl_r (o_loadbg Tryz.isAgg39 rfl f3_1 (by rfl)) ?_
   refine wl_call rfl (C_find _ (f1.u hw).to_RI (hK.u hw) rfl rfl (by omega) (by omega) (by omega) (by omega)) ?_
   rintro v14 w14 ⟨rfl, b14⟩
   simp only [drew_size] at b14
   have s14 := b14.size
   simp only [drew_size] at s14
   replace hw := hw.trans (b14.mono hw.size)
   replace f3_1 := f3_1.u b14
   refine zm rfl ?_
   refine zp (o_ext20 rfl) ?_
   refine zp (o_ext21 rfl) ?_
   refine za rfl (za rfl ?_)
   refine wl_nild ?_
   refine rk_seq (zs (zm rfl (wl_nil ?_)))
   refine rk_if rfl (fun h17 => absurd h17 (by omega)) (fun h17 => ?_)
   refine rk_skip (rk_seq (zs (zm rfl ?_)))
   refine zp (o_nil rfl) ?_
   refine zp (o_faddr (s := 31) (i := 0) (off := 0) Tryz.underlying31 rfl Tryz.sizeOf28 rfl rfl rfl) ?_
   refine wl_r (o_loadbg Tryz.isAgg28 rfl (f0.u hw) (by rfl)) ?_
   refine zp (o_len (t := 28) Tryz.underlying28 rfl) ?_
   refine zp (o_ge rfl rfl) ?_
   refine wl_nil ?_
   refine rk_if rfl (fun h33 => absurd h33 (by omega)) (fun h33 => ?_)
   refine rk_skip (rk_seq ?_)
   refine rk_drawo (id := 7) (none) [0, 0, 2, 4, 8, 0, 0, 64, 128, 0, 512, 1280, 2304, 4096, 10288, 32767, 65535, 98303] [0, 0, 2, 6, 14, 0, 0, 64, 192, 0, 512, 1984, 4032, 8128, 16382, 32767, 65535, 131071] 157952 10496 [0, 1, 2, 3, 4, 5, 6, 7, 9, 10, 8, 11, 12, 13, 14, 15, 16, 17] [(.p, 0), (.p, 1), (.p, 2), (.p, 3), (.s, 4), (.p, 5), (.p, 6), (.r, 7), (.p, 9), (.s, 10), (.c, 8), (.c, 11), (.p, 12), (.c, 13), (.l, 14), (.p, 15), (.p, 16), (.l, 17)] (by kernel_rfl) (by kernel_rfl) (by kernel_rfl) (by kernel_rfl) (by kernel_rfl) ?_
   dsimp only [inOrder, nthOp]
   replace hw := hw.drew
   replace f3_1 := f3_1.d
   refine zm rfl (zm rfl ?_)
   refine zp (o_nil rfl) ?_
   refine zp (o_faddr (s := 31) (i := 0) (off := 0) Tryz.underlying31 rfl Tryz.sizeOf28 rfl rfl rfl) ?_
   refine wl_s (fun _ hk => (o_loadbg Tryz.isAgg28 rfl ((f0.u hw).u (below_of_grown_none hk)) (by rfl))) ?_
   refine zm rfl ?_
   refine zp (o_faddr (s := 54) (i := 1) (off := 1) Tryz.underlying54 rfl Tryz.sizeOf39 rfl rfl rfl) ?_
   refine wl_r (o_loadbg Tryz.isAgg39 rfl f3_1 (by rfl)) ?_
   refine zp (o_faddr (s := 54) (i := 2) (off := 2) Tryz.underlying54 rfl Tryz.sizeOf39 rfl rfl rfl) ?_
   refine wl_s (fun _ hk => (o_loadbg Tryz.isAgg39 rfl (f3_1.u (below_of_grown_none hk)) (by rfl))) ?_
   refine wl_call rfl (C_bClone _ (hK.u hw) rfl (by omega)) ?_ (hq := .inr fun _ _ h => grown_of_below h.choose_spec.choose_spec.2.2 _)
   rintro v42 w42 ⟨A42, ⟨c42, ⟨rfl, ⟨f42, b42⟩⟩⟩⟩
   simp only [drew_size] at f42
   simp only [drew_size] at b42
   have qf42 := f42.cap
   have s42 := b42.size
   simp only [drew_size] at s42
   replace hw := hw.trans (b42.mono hw.size)
   replace f3_1 := f3_1.u b42
   refine wl_call rfl (C_bClone _ (hV.u hw) rfl (by omega)) ?_ (hq := .inr fun _ _ h => grown_of_below h.choose_spec.choose_spec.2.2 _)
   rintro v45 w45 ⟨A45, ⟨c45, ⟨rfl, ⟨f45, b45⟩⟩⟩⟩
   have qf45 := f45.cap
   have s45 := b45.size
   replace hw := hw.trans (b45.mono hw.size)
   replace f3_1 := f3_1.u b45
   replace f42 := f42.u b45
   refine zp (o_buildg [_, _] Tryz.underlying94 Tryz.zeroValue94 (by rfl) (by rfl) rfl (by rfl) (by rfl) (fun _ => by kernel_rfl)) ?_
   have m1 := own_max f42
   have m2 := own_max f45
   refine wl_litItm (by rfl) rfl f42.to_RdT f45.to_RdT rfl rfl (by omega) (by omega) (by omega) (by omega) (by rfl) ?_
   rintro A47 w47 f47 b47
   have qf47 := f47.cap
   have s47 := b47.size
   replace hw := hw.trans (b47.mono hw.size)
   replace f42 := f42.u b47
   replace f3_1 := f3_1.u b47
   replace f45 := f45.u b47
   refine wl_call rfl (K_insI w47 (f1.u hw) f47 (by have := hw.size; omega) rfl rfl hkl hl (by have := hw.size; omega)) ?_
   rintro _ w48 ⟨A48, c48, rfl, f48, g48, b48, t48⟩
   have f0b := (f0.u hw).y g48 (by decide)
   have f2b := (f2.u hw).y g48 (by decide)
   have f3b := (f3.u hw).y g48 (by decide)
   have hcg : Chg g (g + 1) w48 w48 := Chg.refl
   have hst := f0b.at_
   have hws := hw.size
   have hgs := g48.size
   have hwp := hw
   clear hw f47 f42 f45 f3_1
   refine zp (o_nil rfl) ?_
   refine zp (o_faddr (s := 31) (i := 0) (off := 0) Tryz.underlying31 rfl Tryz.sizeOf28 rfl rfl rfl) ?_
   refine wl_storeg1 Tryz.sizeOf28 rfl rfl (by rfl) f0b (by simp) ?_
   rintro w_1 f g_1 e
   have s := g_1.size
   replace hcg := hcg.trans (Chg.of_g1 g_1.g (by omega) (by omega))
   replace f3b := f3b.y g_1 (by decide)
   replace f2b := f2b.y g_1 (by decide)
   replace f48 := f48.y g_1 (by decide)
   clear f0b
   refine wl_nild ?_
   refine zs (za rfl (wl_nil ?_))
   refine ret1 rfl rfl ?_
   have hcs := hcg.size
   exact ⟨rfl, ⟨A48, c48, A2, c2, A3, c3, f, f48.base (Nat.le_refl _) (by omega), f2b.base (Nat.le_refl _) (by omega), f3b.base (Nat.le_refl _) (by omega), q7, by omega⟩, ⟨w48, w48, blk A, none, Grew.after hwp g48 f1.ty, Grew.none_ (Below.refl _ _), Grew.of_chg1 hcg hst, fun k hk => (f1.rng k hk).1, fun k hk => (by cases hk)⟩⟩
end Go.Proofs.YtahkeoegbjopfaaGreat
namespace Go.Proofs.YtahkeoegbjopfaaGreat
set_option maxRecDepth 100000
open Go.RowKit
theorem Grew.after2 {w w1 w' : World} {e : TypeId} {r : Option Nat} (h : Below w.heap.size w w1) (k : Grew w1 w' e r) : ∃ r', Grew w w' e r' ∧ ∀ b, r' = some b → r = some b := by
 rcases r with _ | b
 ·exact ⟨none, ⟨grownBy_trans (grown_of_below h _) k.g, fun b hb => (by cases hb)⟩, fun b hb => hb⟩
 ·by_cases hb : b < w.heap.size
  ·refine ⟨some b, ⟨grownBy_trans (grown_of_below h _) k.g, fun q hq => ?_⟩, fun q hq => hq⟩
   injection hq with hq
   subst hq
   exact (k.ty b rfl).keep (h.block b hb).symm
  ·exact ⟨none, Grew.none_ (h.trans (k.below h.size (fun q hq => by injection hq with hq; omega))), fun q hq => (by cases hq)⟩
theorem StCh.after {w w1 w' : World} {B g : Nat} (h : StCh B g w1 w') (hb : Below w.heap.size w w1) : StCh B g w w' := by
 obtain ⟨x1, x2, r1, r2, g1, g2, g3, t1, t2⟩ := h.ex
 obtain ⟨r', k1, k2⟩ := Grew.after2 hb g1
 exact ⟨x1, x2, r', r2, k1, g2, g3, fun k hk => t1 k (k2 k hk), t2⟩
theorem K_doAddWriter {K V : Option Addr} {n c m d B g : Nat} {k : Int} {u : Ky} {S : Stt} (w : World) (hS : StAt w B g S) (hl : S.2.1.length ≤ 100000) (hs : IncK S.2.1) :
  CallsR Tryz.prog 80 [.pointer (some ⟨g, 0, none⟩), .agg (opC k K n c V m d u).toArray] w fun v w' => v = .bool (addS S.2.1 u 16).2 ∧ StAt w' B g (S.1, (addS S.2.1 u 16).1, S.2.2) ∧ StCh B g w w' := by
 obtain ⟨A, ca, A2, c2, A3, c3, f0, f1, f2, f3, q7, q8⟩ := hS.ex
 refine callsR Tryz.func80 rfl rfl (by kernel_rfl) rfl ?_
 have hw := Below.refl w.heap.size w
 refine zs ?_
 refine wl_boxg _ rfl (by rfl) ?_
 rintro g3 w3 f3_1 b3 i3 i3_1
 have s3 := b3.size
 replace hw := hw.trans (b3.mono hw.size)
 refine za rfl (wl_nil (rk_seq ?_))
 refine rk_draw (id := 1) (none) [0, 1, 2, 0, 8, 20, 63] [0, 1, 3, 0, 8, 31, 63] 32 0 [(.p, 0), (.p, 1), (.p, 2), (.p, 3), (.r, 4), (.l, 5), (.p, 6)] (by kernel_rfl) (by kernel_rfl) (by kernel_rfl) (by kernel_rfl) (by kernel_rfl) ?_
 replace hw := hw.drew
 replace f3_1 := f3_1.d
 refine zm rfl ?_
 refine zp (o_nil rfl) ?_
 refine zp (o_faddr (s := 31) (i := 1) (off := 1) Tryz.underlying31 rfl Tryz.sizeOf29 rfl rfl rfl) ?_
 refine zp (o_faddr (s := 54) (i := 3) (off := 3) Tryz.underlying54 rfl Tryz.sizeOf42 rfl rfl rfl) ?_
 refine wl_r (o_ldWho rfl f3_1) ?_
 have hS2 := (hS.same hw).1
 refine wl_call rfl (K_addW (most := 16) _ hS2 hl hs (by omega)) ?_
 rintro _ w10 ⟨rfl, h3, h4⟩
 refine za rfl ?_
 refine wl_nild ?_
 refine ret1 rfl rfl ?_
 exact ⟨rfl, h3, h4.after hw⟩
theorem K_doDropWriter {K V : Option Addr} {n c m d B g : Nat} {k : Int} {u : Ky} {S : Stt} (w : World) (hS : StAt w B g S) (hl : S.2.1.length ≤ 100000) (hs : IncK S.2.1) :
  CallsR Tryz.prog 81 [.pointer (some ⟨g, 0, none⟩), .agg (opC k K n c V m d u).toArray] w fun v w' => v = .bool (dropS S.2.1 u 0).2 ∧ StAt w' B g (S.1, (dropS S.2.1 u 0).1, S.2.2) ∧ StCh B g w w' := by
 obtain ⟨A, ca, A2, c2, A3, c3, f0, f1, f2, f3, q7, q8⟩ := hS.ex
 refine callsR Tryz.func81 rfl rfl (by kernel_rfl) rfl ?_
 have hw := Below.refl w.heap.size w
 refine zs ?_
 refine wl_boxg _ rfl (by rfl) ?_
 rintro g3 w3 f3_1 b3 i3 i3_1
 have s3 := b3.size
 replace hw := hw.trans (b3.mono hw.size)
 refine za rfl (wl_nil (rk_seq ?_))
 refine rk_draw (id := 1) (none) [0, 1, 2, 0, 8, 20, 63] [0, 1, 3, 0, 8, 31, 63] 32 0 [(.p, 0), (.p, 1), (.p, 2), (.p, 3), (.r, 4), (.l, 5), (.p, 6)] (by kernel_rfl) (by kernel_rfl) (by kernel_rfl) (by kernel_rfl) (by kernel_rfl) ?_
 replace hw := hw.drew
 replace f3_1 := f3_1.d
 refine zm rfl ?_
 refine zp (o_nil rfl) ?_
 refine zp (o_faddr (s := 31) (i := 1) (off := 1) Tryz.underlying31 rfl Tryz.sizeOf29 rfl rfl rfl) ?_
 refine zp (o_faddr (s := 54) (i := 3) (off := 3) Tryz.underlying54 rfl Tryz.sizeOf42 rfl rfl rfl) ?_
 refine wl_r (o_ldWho rfl f3_1) ?_
 have hS2 := (hS.same hw).1
 refine wl_call rfl (K_dropW (least := 0) _ hS2 hl hs (by omega)) ?_
 rintro _ w10 ⟨rfl, h3, h4⟩
 refine za rfl ?_
 refine wl_nild ?_
 refine ret1 rfl rfl ?_
 exact ⟨rfl, h3, h4.after hw⟩
theorem K_doAddIndexer {K V : Option Addr} {n c m d B g : Nat} {k : Int} {u : Ky} {S : Stt} (w : World) (hS : StAt w B g S) (hl : S.2.2.length ≤ 100000) (hs : IncK S.2.2) :
  CallsR Tryz.prog 82 [.pointer (some ⟨g, 0, none⟩), .agg (opC k K n c V m d u).toArray] w fun v w' => v = .bool (addS S.2.2 u 16).2 ∧ StAt w' B g (S.1, S.2.1, (addS S.2.2 u 16).1) ∧ StCh B g w w' := by
 obtain ⟨A, ca, A2, c2, A3, c3, f0, f1, f2, f3, q7, q8⟩ := hS.ex
 refine callsR Tryz.func82 rfl rfl (by kernel_rfl) rfl ?_
 have hw := Below.refl w.heap.size w
 refine zs ?_
 refine wl_boxg _ rfl (by rfl) ?_
 rintro g3 w3 f3_1 b3 i3 i3_1
 have s3 := b3.size
 replace hw := hw.trans (b3.mono hw.size)
 refine za rfl (wl_nil (rk_seq ?_))
 refine rk_draw (id := 1) (none) [0, 1, 2, 0, 8, 20, 63] [0, 1, 3, 0, 8, 31, 63] 32 0 [(.p, 0), (.p, 1), (.p, 2), (.p, 3), (.r, 4), (.l, 5), (.p, 6)] (by kernel_rfl) (by kernel_rfl) (by kernel_rfl) (by kernel_rfl) (by kernel_rfl) ?_
 replace hw := hw.drew
 replace f3_1 := f3_1.d
 refine zm rfl ?_
 refine zp (o_nil rfl) ?_
 refine zp (o_faddr (s := 31) (i := 2) (off := 2) Tryz.underlying31 rfl Tryz.sizeOf29 rfl rfl rfl) ?_
 refine zp (o_faddr (s := 54) (i := 3) (off := 3) Tryz.underlying54 rfl Tryz.sizeOf42 rfl rfl rfl) ?_
 refine wl_r (o_ldWho rfl f3_1) ?_
 have hS2 := (hS.same hw).1
 refine wl_call rfl (K_addX (most := 16) _ hS2 hl hs (by omega)) ?_
 rintro _ w10 ⟨rfl, h3, h4⟩
 refine za rfl ?_
 refine wl_nild ?_
 refine ret1 rfl rfl ?_
 exact ⟨rfl, h3, h4.after hw⟩
theorem K_doDropIndexer {K V : Option Addr} {n c m d B g : Nat} {k : Int} {u : Ky} {S : Stt} (w : World) (hS : StAt w B g S) (hl : S.2.2.length ≤ 100000) (hs : IncK S.2.2) :
  CallsR Tryz.prog 83 [.pointer (some ⟨g, 0, none⟩), .agg (opC k K n c V m d u).toArray] w fun v w' => v = .bool (dropS S.2.2 u 1).2 ∧ StAt w' B g (S.1, S.2.1, (dropS S.2.2 u 1).1) ∧ StCh B g w w' := by
 obtain ⟨A, ca, A2, c2, A3, c3, f0, f1, f2, f3, q7, q8⟩ := hS.ex
 refine callsR Tryz.func83 rfl rfl (by kernel_rfl) rfl ?_
 have hw := Below.refl w.heap.size w
 refine zs ?_
 refine wl_boxg _ rfl (by rfl) ?_
 rintro g3 w3 f3_1 b3 i3 i3_1
 have s3 := b3.size
 replace hw := hw.trans (b3.mono hw.size)
 refine za rfl (wl_nil (rk_seq ?_))
 refine rk_draw (id := 1) (none) [0, 1, 2, 0, 8, 20, 63] [0, 1, 3, 0, 8, 31, 63] 32 0 [(.p, 0), (.p, 1), (.p, 2), (.p, 3), (.r, 4), (.l, 5), (.p, 6)] (by kernel_rfl) (by kernel_rfl) (by kernel_rfl) (by kernel_rfl) (by kernel_rfl) ?_
 replace hw := hw.drew
 replace f3_1 := f3_1.d
 refine zm rfl ?_
 refine zp (o_nil rfl) ?_
 refine zp (o_faddr (s := 31) (i := 2) (off := 2) Tryz.underlying31 rfl Tryz.sizeOf29 rfl rfl rfl) ?_
 refine zp (o_faddr (s := 54) (i := 3) (off := 3) Tryz.underlying54 rfl Tryz.sizeOf42 rfl rfl rfl) ?_
 refine wl_r (o_ldWho rfl f3_1) ?_
 have hS2 := (hS.same hw).1
 refine wl_call rfl (K_dropX (least := 1) _ hS2 hl hs (by omega)) ?_
 rintro _ w10 ⟨rfl, h3, h4⟩
 refine za rfl ?_
 refine wl_nild ?_
 refine ret1 rfl rfl ?_
 exact ⟨rfl, h3, h4.after hw⟩
structure StOk (S : Stt) : Prop where
 i : OkI S.1
 x : IncK S.2.1
 y : IncK S.2.2
 li : S.1.length ≤ 100000
 lx : S.2.1.length ≤ 100000
 ly : S.2.2.length ≤ 100000
theorem OkI.lt {I : List (By × By)} (h : OkI I) : LtI I := fun x hx => by
 obtain ⟨i, hi, rfl⟩ := List.getElem_of_mem hx
 have := (h i hi).1
 omega
theorem sh4_do {k kk : Int} {gf pf rf df : Nat} (h : Sh4 k gf pf rf df) {K V : Option Addr} {p q : By} {n c m d B g : Nat} {u : Ky} {S : Stt} (w : World) (hS : StAt w B g S) (ho : StOk S) (hK : Rd w K p) (hV : Rd w V q) (hn : n = p.length) (hm : m = q.length) (hp : p.length ≤ 4000000) (hq : q.length ≤ 4000000) :
  CallsR Tryz.prog df [.pointer (some ⟨g, 0, none⟩), .agg (opC kk K n c V m d u).toArray] w fun v w' => v = .bool (doS k S p q u).2 ∧ StAt w' B g (doS k S p q u).1 ∧ StCh B g w w' := by
 rcases h with ⟨rfl, _, _, _, rfl⟩ | ⟨rfl, _, _, _, rfl⟩ | ⟨rfl, _, _, _, rfl⟩ | ⟨rfl, _, _, _, rfl⟩ | ⟨rfl, _, _, _, rfl⟩ | ⟨rfl, _, _, _, rfl⟩
 ·exact K_doPut w hS hK hV hn hm hp hq ho.li ho.i.lt ho.i.srt
 ·exact K_doDelete w hS hK hn hp ho.li ho.i.lt ho.i.srt
 ·exact K_doAddWriter w hS ho.lx ho.x
 ·exact K_doDropWriter w hS ho.lx ho.x
 ·exact K_doAddIndexer w hS ho.ly ho.y
 ·exact K_doDropIndexer w hS ho.ly ho.y
def mayS (S : Stt) (wr : Ky) (k : Int) (n m : Nat) (u : Ky) : Prop := okOp k n m u = true ∧ wr ∈ S.2.1 ∧ ((k ≠ 1 ∧ k ≠ 2) → wr ∈ S.2.2)
instance (S : Stt) (wr : Ky) (k : Int) (n m : Nat) (u : Ky) : Decidable (mayS S wr k n m u) := by unfold mayS; infer_instance
def stS (S : Stt) (wr : Ky) (o : Opn) : Stt × Bool := if mayS S wr o.1 o.2.1.length o.2.2.1.length o.2.2.2 then doS o.1 S o.2.1 o.2.2.1 o.2.2.2 else (S, false)
theorem K_step {K V : Option Addr} {p q : By} {n c m d B g : Nat} {k : Int} {u wr : Ky} {S : Stt} (w : World) (hS : StAt w B g S) (ho : StOk S) (hK : Rd w K p) (hV : Rd w V q) (hn : n = p.length) (hm : m = q.length) (hp : p.length ≤ 4000000) (hq : q.length ≤ 4000000) :
  CallsR Tryz.prog 37 [.pointer (some ⟨g, 0, none⟩), .agg (B8 wr.1).toArray, .agg (opC k K n c V m d u).toArray] w fun v w' => v = .bool (stS S wr (k, p, q, u)).2 ∧ StAt w' B g (stS S wr (k, p, q, u)).1 ∧ StCh B g w w' := by
 subst hn; subst hm
 obtain ⟨A, ca, A2, c2, A3, c3, f0, f1, f2, f3, q7, q8⟩ := hS.ex
 have hlx := ho.lx
 have hly := ho.ly
 unfold stS
 dsimp only
 refine callsR Tryz.func37 rfl rfl (by kernel_rfl) rfl ?_
 have hw := Below.refl w.heap.size w
 by_cases hk : 1 ≤ k ∧ k ≤ 6
 ·obtain ⟨hk1, hk2⟩ := hk
  refine zs ?_
  refine wl_boxg _ rfl (by rfl) ?_
  rintro g4 w4 f4 b4 i4 i4_1
  have s4 := b4.size
  replace hw := hw.trans (b4.mono hw.size)
  refine wl_boxg _ rfl (by rfl) ?_
  rintro g5 w5 f5 b5 i5 i5_1
  have s5 := b5.size
  replace hw := hw.trans (b5.mono hw.size)
  replace f4 := f4.u b5
  refine za rfl (wl_nil (zs ?_))
  refine zp (o_faddr (s := 54) (i := 0) (off := 0) Tryz.underlying54 rfl Tryz.sizeOf3 rfl rfl rfl) ?_
  refine wl_r (o_loadbg Tryz.isAgg3 rfl f5 (by rfl)) ?_
  refine wl_call rfl (C_formOk _ (by omega) (by omega)) ?_
  rintro v12 w12 ⟨gf12, ⟨pf12, ⟨rf12, ⟨df12, ⟨rfl, ⟨i12, b12⟩⟩⟩⟩⟩⟩
  have s12 := b12.size
  replace hw := hw.trans (b12.mono hw.size)
  replace f4 := f4.u b12
  replace f5 := f5.u b12
  refine zm rfl ?_
  refine zp (o_ext20 rfl) ?_
  refine zp (o_ext21 rfl) ?_
  refine wl_allocg [_, _, _, _] Tryz.zeroValue89 (by rfl) ?_
  rintro g7 w7 f7 b7 i7 i7_1
  have s7 := b7.size
  replace hw := hw.trans (b7.mono hw.size)
  replace f5 := f5.u b7
  replace f4 := f4.u b7
  refine wl_storega Tryz.sizeOf89 rfl rfl (by rfl) (oneCell_of (by rfl)) f7 (by rfl) ?_
  rintro w_1 f g_1 e
  have s := g_1.size
  replace hw := hw.trans (below_of_grownBy g_1.g hw.size (by omega))
  replace f4 := f4.k g_1.g (ap_some (by omega))
  replace f5 := f5.k g_1.g (ap_some (by omega))
  clear f7
  refine za rfl (wl_nil (rk_seq (rk_seq ?_)))
  refine rk_draw (id := 2) (none) [0, 1, 2, 4, 12, 4, 52, 68, 132, 320, 512, 1536, 2560, 4608, 512, 25088, 33280, 66048] [0, 1, 3, 7, 15, 7, 63, 127, 255, 511, 1023, 2047, 4095, 8191, 1023, 32767, 65535, 131071] 32832 0 [(.p, 0), (.p, 1), (.p, 2), (.p, 3), (.r, 4), (.r, 5), (.l, 6), (.p, 7), (.p, 8), (.p, 9), (.p, 10), (.p, 11), (.p, 12), (.r, 13), (.r, 14), (.l, 15), (.p, 16), (.p, 17)] (by kernel_rfl) (by kernel_rfl) (by kernel_rfl) (by kernel_rfl) (by kernel_rfl) ?_
  replace hw := hw.drew
  replace f5 := f5.d
  replace f4 := f4.d
  replace f := f.d
  refine zm rfl ?_
  refine zp (o_not rfl) ?_
  refine zm rfl ?_
  refine zp (o_faddr (s := 89) (i := 0) (off := 0) Tryz.underlying89 rfl Tryz.sizeOf84 rfl rfl rfl) ?_
  refine wl_r (o_loadbg Tryz.isAgg84 rfl f (by rfl)) ?_
  refine wl_r (o_loadag Tryz.isAgg54 Tryz.sizeOf54 rfl f5 (opC_length ..)) ?_
  refine wl_know 17 false rfl (by simp) ?_
  refine wl_callf (xs := [_]) (cs := []) rfl rfl (sh4_good i12 _ (by omega) (by omega)) ?_
  rintro _ w21 ⟨rfl, b21⟩
  have sb21 := b21.size
  simp only [drew_size] at sb21
  replace hw := hw.trans (b21.mono hw.size)
  replace f := f.u b21
  replace f4 := f4.u b21
  replace f5 := f5.u b21
  cases hgd : goodS k p.length q.length u
  ·rw [if_neg (fun h => by have := (okOp_of h.1).2.2; rw [hgd] at this; cases this)]
   refine zp (o_not rfl) ?_
   refine zp (o_pick_f rfl rfl) ?_
   refine zm rfl (wl_off (wl_off (wl_off (wl_off (wl_off (wl_off (wl_off ?_)))))))
   refine zp (o_pick_t rfl rfl) ?_
   refine wl_nild ?_
   refine rk_true rfl ?_
   refine zs (za rfl (wl_nil ?_))
   refine ret1 rfl rfl ?_
   exact ⟨rfl, hS.same hw⟩
  have hok : okOp k p.length q.length u = true := by simp [okOp, hgd, hk1, hk2]
  by_cases hx : wr ∈ S.2.1
  ·refine zp (o_not rfl) ?_
   refine zp (o_pick_f rfl rfl) ?_
   refine zm rfl (zm rfl ?_)
   refine zp (o_nil rfl) ?_
   refine zp (o_faddr (s := 31) (i := 1) (off := 1) Tryz.underlying31 rfl Tryz.sizeOf29 rfl rfl rfl) ?_
   refine wl_r (o_loadbg Tryz.isAgg29 rfl (f0.u hw) (by rfl)) ?_
   refine wl_r (o_ldKyB rfl f4) ?_
   refine wl_call rfl (C_member _ (f2.u hw).to_RKs rfl (by omega)) ?_
   rintro v30 w30 ⟨rfl, b30⟩
   have s30 := b30.size
   replace hw := hw.trans (b30.mono hw.size)
   replace f5 := f5.u b30
   replace f4 := f4.u b30
   replace f := f.u b30
   refine zp (o_not rfl) ?_
   refine zp (o_pick_f rfl rfl) ?_
   refine wl_nild ?_
   rw [decide_eq_true hx]
   by_cases h12 : k = 1 ∨ k = 2
   ·rw [if_pos ⟨hok, hx, fun h => absurd h12 (by omega)⟩]
    rcases h12 with rfl | rfl
    ·refine rk_false rfl ?_
     refine rk_skip (rk_seq (rk_seq ?_))
     refine rk_draw (id := 4) (none) [0, 1, 2, 4, 8, 24, 40, 72, 136, 256, 768, 1280, 2304, 256, 12544, 16640, 33024] [0, 1, 3, 7, 15, 31, 63, 127, 255, 511, 1023, 2047, 4095, 511, 16383, 32767, 65535] 16384 0 [(.p, 0), (.r, 1), (.p, 2), (.p, 3), (.p, 4), (.r, 5), (.p, 6), (.p, 7), (.p, 8), (.p, 9), (.p, 10), (.p, 11), (.r, 12), (.r, 13), (.l, 14), (.p, 15), (.p, 16)] (by kernel_rfl) (by kernel_rfl) (by kernel_rfl) (by kernel_rfl) (by kernel_rfl) ?_
     replace hw := hw.drew
     replace f5 := f5.d
     replace f := f.d
     replace f4 := f4.d
     refine zp (o_faddr (s := 54) (i := 0) (off := 0) Tryz.underlying54 rfl Tryz.sizeOf3 rfl rfl rfl) ?_
     refine wl_r (o_loadbg Tryz.isAgg3 rfl f5 (by rfl)) ?_
     refine zp (o_ne rfl rfl) ?_
     refine zm rfl (wl_off (wl_off (wl_off ?_)))
     refine zp (o_pick_f rfl rfl) ?_
     refine zm rfl (wl_off (wl_off (wl_off (wl_off (wl_off (wl_off (wl_off ?_)))))))
     refine zp (o_pick_f rfl rfl) ?_
     refine wl_nild ?_
     refine rk_false rfl ?_
     refine rk_skip (zs ?_)
     refine zp (o_faddr (s := 89) (i := 3) (off := 3) Tryz.underlying89 rfl Tryz.sizeOf87 rfl rfl rfl) ?_
     refine wl_r (o_loadbg Tryz.isAgg87 rfl f (by rfl)) ?_
     refine zm rfl ?_
     refine wl_r (o_loadag Tryz.isAgg54 Tryz.sizeOf54 rfl f5 (opC_length ..)) ?_
     refine wl_callf (xs := [_, _]) (cs := []) rfl rfl (sh4_do i12 _ (hS.same hw).1 ho (hK.below hw) (hV.below hw) rfl rfl hp hq) ?_
     rintro _ w54 ⟨rfl, e1, e2⟩
     have e3 := e2.after hw
     clear hw
     refine za rfl (wl_nil ?_)
     refine ret1 rfl rfl ?_
     exact ⟨rfl, e1, e3⟩
    ·refine rk_false rfl ?_
     refine rk_skip (rk_seq (rk_seq ?_))
     refine rk_draw (id := 4) (none) [0, 1, 2, 4, 8, 24, 40, 72, 136, 256, 768, 1280, 2304, 256, 12544, 16640, 33024] [0, 1, 3, 7, 15, 31, 63, 127, 255, 511, 1023, 2047, 4095, 511, 16383, 32767, 65535] 16384 0 [(.p, 0), (.r, 1), (.p, 2), (.p, 3), (.p, 4), (.r, 5), (.p, 6), (.p, 7), (.p, 8), (.p, 9), (.p, 10), (.p, 11), (.r, 12), (.r, 13), (.l, 14), (.p, 15), (.p, 16)] (by kernel_rfl) (by kernel_rfl) (by kernel_rfl) (by kernel_rfl) (by kernel_rfl) ?_
     replace hw := hw.drew
     replace f5 := f5.d
     replace f := f.d
     replace f4 := f4.d
     refine zp (o_faddr (s := 54) (i := 0) (off := 0) Tryz.underlying54 rfl Tryz.sizeOf3 rfl rfl rfl) ?_
     refine wl_r (o_loadbg Tryz.isAgg3 rfl f5 (by rfl)) ?_
     refine zp (o_ne rfl rfl) ?_
     refine zm rfl ?_
     refine zp (o_faddr (s := 54) (i := 0) (off := 0) Tryz.underlying54 rfl Tryz.sizeOf3 rfl rfl rfl) ?_
     refine wl_r (o_loadbg Tryz.isAgg3 rfl f5 (by rfl)) ?_
     refine zp (o_ne rfl rfl) ?_
     refine zp (o_pick_t rfl rfl) ?_
     refine zm rfl (wl_off (wl_off (wl_off (wl_off (wl_off (wl_off (wl_off ?_)))))))
     refine zp (o_pick_f rfl rfl) ?_
     refine wl_nild ?_
     refine rk_false rfl ?_
     refine rk_skip (zs ?_)
     refine zp (o_faddr (s := 89) (i := 3) (off := 3) Tryz.underlying89 rfl Tryz.sizeOf87 rfl rfl rfl) ?_
     refine wl_r (o_loadbg Tryz.isAgg87 rfl f (by rfl)) ?_
     refine zm rfl ?_
     refine wl_r (o_loadag Tryz.isAgg54 Tryz.sizeOf54 rfl f5 (opC_length ..)) ?_
     refine wl_callf (xs := [_, _]) (cs := []) rfl rfl (sh4_do i12 _ (hS.same hw).1 ho (hK.below hw) (hV.below hw) rfl rfl hp hq) ?_
     rintro _ w54 ⟨rfl, e1, e2⟩
     have e3 := e2.after hw
     clear hw
     refine za rfl (wl_nil ?_)
     refine ret1 rfl rfl ?_
     exact ⟨rfl, e1, e3⟩
   ·have n1 : k ≠ 1 := by omega
    have n2 : k ≠ 2 := by omega
    by_cases hy : wr ∈ S.2.2
    ·rw [if_pos ⟨hok, hx, fun _ => hy⟩]
     refine rk_false rfl ?_
     refine rk_skip (rk_seq (rk_seq ?_))
     refine rk_draw (id := 4) (none) [0, 1, 2, 4, 8, 24, 40, 72, 136, 256, 768, 1280, 2304, 256, 12544, 16640, 33024] [0, 1, 3, 7, 15, 31, 63, 127, 255, 511, 1023, 2047, 4095, 511, 16383, 32767, 65535] 16384 0 [(.p, 0), (.r, 1), (.p, 2), (.p, 3), (.p, 4), (.r, 5), (.p, 6), (.p, 7), (.p, 8), (.p, 9), (.p, 10), (.p, 11), (.r, 12), (.r, 13), (.l, 14), (.p, 15), (.p, 16)] (by kernel_rfl) (by kernel_rfl) (by kernel_rfl) (by kernel_rfl) (by kernel_rfl) ?_
     replace hw := hw.drew
     replace f := f.d
     replace f4 := f4.d
     replace f5 := f5.d
     refine zp (o_faddr (s := 54) (i := 0) (off := 0) Tryz.underlying54 rfl Tryz.sizeOf3 rfl rfl rfl) ?_
     refine wl_r (o_loadbg Tryz.isAgg3 rfl f5 (by rfl)) ?_
     refine zp (o_ne rfl rfl) ?_
     refine zm rfl ?_
     refine wl_know 36 true rfl (decide_eq_true (by omega)) ?_
     refine zp (o_faddr (s := 54) (i := 0) (off := 0) Tryz.underlying54 rfl Tryz.sizeOf3 rfl rfl rfl) ?_
     refine wl_r (o_loadbg Tryz.isAgg3 rfl f5 (by rfl)) ?_
     refine zp (o_ne rfl rfl) ?_
     refine zp (o_pick_t rfl rfl) ?_
     refine zm rfl ?_
     refine wl_know 41 true rfl (decide_eq_true (by omega)) ?_
     refine zm rfl ?_
     refine zp (o_nil rfl) ?_
     refine zp (o_faddr (s := 31) (i := 2) (off := 2) Tryz.underlying31 rfl Tryz.sizeOf29 rfl rfl rfl) ?_
     refine wl_r (o_loadbg Tryz.isAgg29 rfl (f0.u hw) (by rfl)) ?_
     refine wl_r (o_ldKyB rfl f4) ?_
     refine wl_call rfl (C_member _ (f3.u hw).to_RKs rfl (by omega)) ?_
     rintro v47 w47 ⟨rfl, b47⟩
     simp only [drew_size] at b47
     have s47 := b47.size
     simp only [drew_size] at s47
     replace hw := hw.trans (b47.mono hw.size)
     replace f5 := f5.u b47
     replace f4 := f4.u b47
     replace f := f.u b47
     refine zp (o_not rfl) ?_
     refine zp (o_pick_t rfl rfl) ?_
     refine wl_nild ?_
     rw [decide_eq_true hy]
     refine rk_false rfl ?_
     refine rk_skip (zs ?_)
     refine zp (o_faddr (s := 89) (i := 3) (off := 3) Tryz.underlying89 rfl Tryz.sizeOf87 rfl rfl rfl) ?_
     refine wl_r (o_loadbg Tryz.isAgg87 rfl f (by rfl)) ?_
     refine zm rfl ?_
     refine wl_r (o_loadag Tryz.isAgg54 Tryz.sizeOf54 rfl f5 (opC_length ..)) ?_
     refine wl_callf (xs := [_, _]) (cs := []) rfl rfl (sh4_do i12 _ (hS.same hw).1 ho (hK.below hw) (hV.below hw) rfl rfl hp hq) ?_
     rintro _ w54 ⟨rfl, e1, e2⟩
     have e3 := e2.after hw
     clear hw
     refine za rfl (wl_nil ?_)
     refine ret1 rfl rfl ?_
     exact ⟨rfl, e1, e3⟩
    ·rw [if_neg (fun h => hy (h.2.2 ⟨n1, n2⟩))]
     refine rk_false rfl ?_
     refine rk_skip (rk_seq (rk_seq ?_))
     refine rk_draw (id := 4) (none) [0, 1, 2, 4, 8, 24, 40, 72, 136, 256, 768, 1280, 2304, 256, 12544, 16640, 33024] [0, 1, 3, 7, 15, 31, 63, 127, 255, 511, 1023, 2047, 4095, 511, 16383, 32767, 65535] 16384 0 [(.p, 0), (.r, 1), (.p, 2), (.p, 3), (.p, 4), (.r, 5), (.p, 6), (.p, 7), (.p, 8), (.p, 9), (.p, 10), (.p, 11), (.r, 12), (.r, 13), (.l, 14), (.p, 15), (.p, 16)] (by kernel_rfl) (by kernel_rfl) (by kernel_rfl) (by kernel_rfl) (by kernel_rfl) ?_
     replace hw := hw.drew
     replace f := f.d
     replace f4 := f4.d
     replace f5 := f5.d
     refine zp (o_faddr (s := 54) (i := 0) (off := 0) Tryz.underlying54 rfl Tryz.sizeOf3 rfl rfl rfl) ?_
     refine wl_r (o_loadbg Tryz.isAgg3 rfl f5 (by rfl)) ?_
     refine zp (o_ne rfl rfl) ?_
     refine zm rfl ?_
     refine wl_know 36 true rfl (decide_eq_true (by omega)) ?_
     refine zp (o_faddr (s := 54) (i := 0) (off := 0) Tryz.underlying54 rfl Tryz.sizeOf3 rfl rfl rfl) ?_
     refine wl_r (o_loadbg Tryz.isAgg3 rfl f5 (by rfl)) ?_
     refine zp (o_ne rfl rfl) ?_
     refine zp (o_pick_t rfl rfl) ?_
     refine zm rfl ?_
     refine wl_know 41 true rfl (decide_eq_true (by omega)) ?_
     refine zm rfl ?_
     refine zp (o_nil rfl) ?_
     refine zp (o_faddr (s := 31) (i := 2) (off := 2) Tryz.underlying31 rfl Tryz.sizeOf29 rfl rfl rfl) ?_
     refine wl_r (o_loadbg Tryz.isAgg29 rfl (f0.u hw) (by rfl)) ?_
     refine wl_r (o_ldKyB rfl f4) ?_
     refine wl_call rfl (C_member _ (f3.u hw).to_RKs rfl (by omega)) ?_
     rintro v47 w47 ⟨rfl, b47⟩
     simp only [drew_size] at b47
     have s47 := b47.size
     simp only [drew_size] at s47
     replace hw := hw.trans (b47.mono hw.size)
     replace f5 := f5.u b47
     replace f4 := f4.u b47
     replace f := f.u b47
     refine zp (o_not rfl) ?_
     refine zp (o_pick_t rfl rfl) ?_
     refine wl_nild ?_
     rw [decide_eq_false hy]
     refine rk_true rfl ?_
     refine zs (za rfl (wl_nil ?_))
     refine ret1 rfl rfl ?_
     exact ⟨rfl, hS.same hw⟩
  ·rw [if_neg (fun h => hx h.2.1)]
   refine zp (o_not rfl) ?_
   refine zp (o_pick_f rfl rfl) ?_
   refine zm rfl (zm rfl ?_)
   refine zp (o_nil rfl) ?_
   refine zp (o_faddr (s := 31) (i := 1) (off := 1) Tryz.underlying31 rfl Tryz.sizeOf29 rfl rfl rfl) ?_
   refine wl_r (o_loadbg Tryz.isAgg29 rfl (f0.u hw) (by rfl)) ?_
   refine wl_r (o_ldKyB rfl f4) ?_
   refine wl_call rfl (C_member _ (f2.u hw).to_RKs rfl (by omega)) ?_
   rintro v30 w30 ⟨rfl, b30⟩
   have s30 := b30.size
   replace hw := hw.trans (b30.mono hw.size)
   replace f5 := f5.u b30
   replace f4 := f4.u b30
   replace f := f.u b30
   refine zp (o_not rfl) ?_
   refine zp (o_pick_f rfl rfl) ?_
   refine wl_nild ?_
   rw [decide_eq_false hx]
   refine rk_true rfl ?_
   refine zs (za rfl (wl_nil ?_))
   refine ret1 rfl rfl ?_
   exact ⟨rfl, hS.same hw⟩
 ·have hk1 : k < 1 ∨ 6 < k := by omega
  rw [if_neg (fun h => by have := okOp_of h.1; omega)]
  refine zs ?_
  refine wl_boxg _ rfl (by rfl) ?_
  rintro g4 w4 f4 b4 i4 i4_1
  have s4 := b4.size
  replace hw := hw.trans (b4.mono hw.size)
  refine wl_boxg _ rfl (by rfl) ?_
  rintro g5 w5 f5 b5 i5 i5_1
  have s5 := b5.size
  replace hw := hw.trans (b5.mono hw.size)
  replace f4 := f4.u b5
  refine za rfl (wl_nil (zs ?_))
  refine zp (o_faddr (s := 54) (i := 0) (off := 0) Tryz.underlying54 rfl Tryz.sizeOf3 rfl rfl rfl) ?_
  refine wl_r (o_loadbg Tryz.isAgg3 rfl f5 (by rfl)) ?_
  refine wl_call rfl (C_formBad _ (by omega)) ?_
  rintro v12 w12 ⟨rfl, b12⟩
  have s12 := b12.size
  replace hw := hw.trans (b12.mono hw.size)
  replace f4 := f4.u b12
  replace f5 := f5.u b12
  refine zm rfl ?_
  refine zp (o_ext20 rfl) ?_
  refine zp (o_ext21 rfl) ?_
  refine wl_allocg [_, _, _, _] Tryz.zeroValue89 (by rfl) ?_
  rintro g7 w7 f7 b7 i7 i7_1
  have s7 := b7.size
  replace hw := hw.trans (b7.mono hw.size)
  replace f5 := f5.u b7
  replace f4 := f4.u b7
  refine wl_storega Tryz.sizeOf89 rfl rfl (by rfl) (by decide) f7 (by rfl) ?_
  rintro w_1 f g_1 e
  have s := g_1.size
  replace hw := hw.trans (below_of_grownBy g_1.g hw.size (by omega))
  replace f4 := f4.k g_1.g (ap_some (by omega))
  replace f5 := f5.k g_1.g (ap_some (by omega))
  clear f7
  refine za rfl (wl_nil (rk_seq (rk_seq ?_)))
  refine rk_draw (id := 2) (none) [0, 1, 2, 4, 12, 4, 52, 68, 132, 320, 512, 1536, 2560, 4608, 512, 25088, 33280, 66048] [0, 1, 3, 7, 15, 7, 63, 127, 255, 511, 1023, 2047, 4095, 8191, 1023, 32767, 65535, 131071] 32832 0 [(.p, 0), (.p, 1), (.p, 2), (.p, 3), (.r, 4), (.r, 5), (.l, 6), (.p, 7), (.p, 8), (.p, 9), (.p, 10), (.p, 11), (.p, 12), (.r, 13), (.r, 14), (.l, 15), (.p, 16), (.p, 17)] (by kernel_rfl) (by kernel_rfl) (by kernel_rfl) (by kernel_rfl) (by kernel_rfl) ?_
  replace hw := hw.drew
  replace f5 := f5.d
  replace f4 := f4.d
  replace f := f.d
  refine zm rfl ?_
  refine zp (o_not rfl) ?_
  refine zm rfl (wl_off (wl_off (wl_off (wl_off (wl_off ?_)))))
  refine zp (o_pick_t rfl rfl) ?_
  refine zm rfl (wl_off (wl_off (wl_off (wl_off (wl_off (wl_off (wl_off ?_)))))))
  refine zp (o_pick_t rfl rfl) ?_
  refine wl_nild ?_
  refine rk_true rfl ?_
  refine zs (za rfl (wl_nil ?_))
  refine ret1 rfl rfl ?_
  exact ⟨rfl, hS.same hw⟩
def stepS (S : Stt) (wr : Ky) (o : Opn) : Stt × Bool := if OkSt S.1 S.2.1 S.2.2 then stS S wr o else (S, false)
theorem OkSt.ok {S : Stt} (h : OkSt S.1 S.2.1 S.2.2) : StOk S := by
 obtain ⟨⟨h1, h2⟩, ⟨h3, h4⟩, h5, h6, h7⟩ := h
 exact ⟨h5, h6, h7, by omega, by omega, by omega⟩
theorem C_opsStep {A B C K V : Option Addr} {S : Stt} {r : Stt × Bool} {p q : By} {n c n2 c2 n3 c3 mk md : Nat} {ck cv : Nat} {k : Int} {u wr : Ky} (w : World) (hA : RI w A S.1) (hB : RKs w B S.2.1) (hC : RKs w C S.2.2) (hK : Rd w K p) (hV : Rd w V q) (hr : stepS S wr (k, p, q, u) = r) (hn : n = S.1.length) (hn2 : n2 = S.2.1.length) (hn3 : n3 = S.2.2.length) (hmk : mk = p.length) (hmd : md = q.length) (hl : S.1.length ≤ 400000) (hl2 : S.2.1.length ≤ 400000) (hl3 : S.2.2.length ≤ 400000) (hL : LtI S.1) (hp : p.length ≤ 4000000) (hq : q.length ≤ 4000000) :
  CallsR Tryz.prog 15 [.agg #[.slice A n c, .slice B n2 c2, .slice C n3 c3], .agg (B8 wr.1).toArray, .agg (opC k K mk ck V md cv u).toArray] w fun v w' => ∃ A' c' B' d' C' e', v = .tuple #[.agg #[.slice A' r.1.1.length c', .slice B' r.1.2.1.length d', .slice C' r.1.2.2.length e'], .bool r.2] ∧ OwnI w' w.heap.size w'.heap.size A' c' r.1.1 ∧ OwnKs w' w.heap.size w'.heap.size B' d' r.1.2.1 ∧ OwnKs w' w.heap.size w'.heap.size C' e' r.1.2.2 ∧ Below w.heap.size w w' := by
 subst hn; subst hn2; subst hn3; subst hmk; subst hmd
 unfold stepS at hr
 refine callsR Tryz.func15 rfl rfl (by kernel_rfl) rfl ?_
 have hw := Below.refl w.heap.size w
 by_cases h1 : OkSt S.1 S.2.1 S.2.2
 ·rw [if_pos h1] at hr
  refine zs ?_
  refine wl_boxg [_, _, _] rfl (by rfl) ?_
  rintro g3 w3 f3 b3 i3 i3_1
  have s3 := b3.size
  replace hw := hw.trans (b3.mono hw.size)
  refine wl_boxg _ rfl (by rfl) ?_
  rintro g4 w4 f4 b4 i4 i4_1
  have s4 := b4.size
  replace hw := hw.trans (b4.mono hw.size)
  replace f3 := f3.u b4
  refine wl_boxg _ rfl (by rfl) ?_
  rintro g5 w5 f5 b5 i5 i5_1
  have s5 := b5.size
  replace hw := hw.trans (b5.mono hw.size)
  replace f3 := f3.u b5
  replace f4 := f4.u b5
  refine wl_allocg [_, _, _] Tryz.zeroValue31 (by rfl) ?_
  rintro g6 w6 f6 b6 i6 i6_1
  have s6 := b6.size
  replace hw := hw.trans (b6.mono hw.size)
  replace f4 := f4.u b6
  replace f3 := f3.u b6
  replace f5 := f5.u b6
  refine za rfl (wl_nil (zs ?_))
  refine wl_r (o_loadag Tryz.isAgg31 Tryz.sizeOf31 rfl f3 (by rfl)) ?_
  refine wl_call rfl (C_clone _ (hA.u hw) (hB.u hw) (hC.u hw) rfl rfl rfl (by omega) (by omega) (by omega) (by omega)) ?_
  rintro v10 w10 ⟨A10, ⟨c10, ⟨B10, ⟨d10, ⟨C10, ⟨e10, ⟨m110, ⟨m210, ⟨rfl, ⟨f10, ⟨f10_1, ⟨f10_2, ⟨i10, ⟨i10_1, ⟨i10_2, b10⟩⟩⟩⟩⟩⟩⟩⟩⟩⟩⟩⟩⟩⟩⟩
  have qf10 := f10.cap
  have qf10_1 := f10_1.cap
  have qf10_2 := f10_2.cap
  have s10 := b10.size
  replace hw := hw.trans (b10.mono hw.size)
  replace f5 := f5.u b10
  replace f3 := f3.u b10
  replace f4 := f4.u b10
  replace f6 := f6.u b10
  refine wl_storega Tryz.sizeOf31 rfl rfl (by rfl) (oneCell_of (by rfl)) f3 (by rfl) ?_
  rintro w_1 f g e
  have s := g.size
  replace hw := hw.trans (below_of_grownBy g.g hw.size (by omega))
  replace f6 := f6.k g.g (ap_some (by omega))
  replace f4 := f4.k g.g (ap_some (by omega))
  replace f5 := f5.k g.g (ap_some (by omega))
  replace f10_2 := f10_2.y g (by decide)
  replace f10_1 := f10_1.y g (by decide)
  replace f10 := f10.y g (by decide)
  clear f3
  refine wl_nil (rk_seq (zs ?_))
  refine wl_r (o_loadag Tryz.isAgg31 Tryz.sizeOf31 rfl f (by rfl)) ?_
  refine wl_call rfl (C_checkStateOk _ f10.to_RI f10_1.to_RKs f10_2.to_RKs rfl rfl rfl (by omega) (by omega) (by omega) (by omega) (by omega)) ?_
  rintro v12 w12 ⟨rfl, b12⟩
  have s12 := b12.size
  replace hw := hw.trans (b12.mono hw.size)
  replace f10 := f10.u b12
  replace f10_1 := f10_1.u b12
  replace f10_2 := f10_2.u b12
  replace f5 := f5.u b12
  replace f4 := f4.u b12
  replace f6 := f6.u b12
  replace f := f.u b12
  refine zp (o_ne rfl rfl) ?_
  refine wl_nil ?_
  refine rk_false rfl ?_
  refine rk_skip (zs ?_)
  refine wl_r (o_ldKyB rfl f4) ?_
  refine wl_r (o_loadag Tryz.isAgg54 Tryz.sizeOf54 rfl f5 (opC_length ..)) ?_
  have hS : StAt w12 w6.heap.size g3 S := ⟨A10, c10, B10, d10, C10, e10, f, f10.base (Nat.le_refl _) (by omega), f10_1.base (by omega) (by omega), f10_2.base (by omega) (by omega), fun k hk e => by
   have x1 := (f10_1.rng k hk).2
   have x2 := (f10_2.rng k e).1
   omega, by omega⟩
  refine wl_call rfl (K_step w12 hS h1.ok (hK.below hw) (hV.below hw) rfl rfl hp hq) ?_
  rintro _ w17 ⟨rfl, e1, e2⟩
  rw [hr] at e1 ⊢
  obtain ⟨A1, a1, A2, a2, A3, a3, z0, z1, z2, z3, z4, z5⟩ := e1.ex
  obtain ⟨x1, x2, r1, r2, y1, y2, y3, t1, t2⟩ := e2.ex
  have s1 := y1.size
  have s2 := y2.size
  have s3 := y3.size
  have hws := hw.size
  have f6b := ((f6.y y1 (by decide)).y y2 (by decide)).k y3.g (ap_some (lo := g6) (hi := g6 + 1) (by omega))
  have hw2 : Below w.heap.size w w17 := hw.trans (((y1.below hws (fun k hk => by have := t1 k hk; omega)).trans (y2.below (by omega) (fun k hk => by have := t2 k hk; omega))).trans (y3.below (by omega) (fun k hk => by injection hk with hk; omega)))
  clear hw f f10 f10_1 f10_2 f5 f4 f6 hS e1 e2
  have hw := hw2
  refine za rfl (wl_nil (zs ?_))
  refine wl_r (o_loadag Tryz.isAgg31 Tryz.sizeOf31 rfl z0 (by rfl)) ?_
  refine zm rfl ?_
  refine wl_storega Tryz.sizeOf31 rfl rfl (by rfl) (oneCell_of (by rfl)) f6b (by rfl) ?_
  rintro w_2 f g_1 e_1
  have s_1 := g_1.size
  replace hw2 := hw2.trans (below_of_grownBy g_1.g hw2.size (by omega))
  replace hw := hw.trans (below_of_grownBy g_1.g hw.size (by omega))
  replace z3 := z3.y g_1 (by decide)
  replace z2 := z2.y g_1 (by decide)
  replace z1 := z1.y g_1 (by decide)
  replace z0 := z0.k g_1.g (ap_some (by omega))
  clear f6b
  refine za rfl (wl_nil ?_)
  refine ret_any rfl (.cell rfl Tryz.isAgg31 Tryz.sizeOf31 (by assumption) rfl <| .tmp rfl <| .nil) (by simp) ?_
  exact ⟨A1, a1, A2, a2, A3, a3, rfl, z1.base (by omega) (by omega), z2.base (by omega) (by omega), z3.base (by omega) (by omega), hw⟩
 ·rw [if_neg h1] at hr
  subst hr
  refine zs ?_
  refine wl_boxg [_, _, _] rfl (by rfl) ?_
  rintro g3 w3 f3 b3 i3 i3_1
  have s3 := b3.size
  replace hw := hw.trans (b3.mono hw.size)
  refine wl_boxg _ rfl (by rfl) ?_
  rintro g4 w4 f4 b4 i4 i4_1
  have s4 := b4.size
  replace hw := hw.trans (b4.mono hw.size)
  replace f3 := f3.u b4
  refine wl_boxg _ rfl (by rfl) ?_
  rintro g5 w5 f5 b5 i5 i5_1
  have s5 := b5.size
  replace hw := hw.trans (b5.mono hw.size)
  replace f3 := f3.u b5
  replace f4 := f4.u b5
  refine wl_allocg [_, _, _] Tryz.zeroValue31 (by rfl) ?_
  rintro g6 w6 f6 b6 i6 i6_1
  have s6 := b6.size
  replace hw := hw.trans (b6.mono hw.size)
  replace f4 := f4.u b6
  replace f3 := f3.u b6
  replace f5 := f5.u b6
  refine za rfl (wl_nil (zs ?_))
  refine wl_r (o_loadag Tryz.isAgg31 Tryz.sizeOf31 rfl f3 (by rfl)) ?_
  refine wl_call rfl (C_clone _ (hA.u hw) (hB.u hw) (hC.u hw) rfl rfl rfl (by omega) (by omega) (by omega) (by omega)) ?_
  rintro v10 w10 ⟨A10, ⟨c10, ⟨B10, ⟨d10, ⟨C10, ⟨e10, ⟨m110, ⟨m210, ⟨rfl, ⟨f10, ⟨f10_1, ⟨f10_2, ⟨i10, ⟨i10_1, ⟨i10_2, b10⟩⟩⟩⟩⟩⟩⟩⟩⟩⟩⟩⟩⟩⟩⟩
  have qf10 := f10.cap
  have qf10_1 := f10_1.cap
  have qf10_2 := f10_2.cap
  have s10 := b10.size
  replace hw := hw.trans (b10.mono hw.size)
  replace f5 := f5.u b10
  replace f3 := f3.u b10
  replace f4 := f4.u b10
  replace f6 := f6.u b10
  refine wl_storega Tryz.sizeOf31 rfl rfl (by rfl) (oneCell_of (by rfl)) f3 (by rfl) ?_
  rintro w_1 f g e
  have s := g.size
  replace hw := hw.trans (below_of_grownBy g.g hw.size (by omega))
  replace f6 := f6.k g.g (ap_some (by omega))
  replace f4 := f4.k g.g (ap_some (by omega))
  replace f5 := f5.k g.g (ap_some (by omega))
  replace f10_2 := f10_2.y g (by decide)
  replace f10_1 := f10_1.y g (by decide)
  replace f10 := f10.y g (by decide)
  clear f3
  refine wl_nil (rk_seq (zs ?_))
  refine wl_r (o_loadag Tryz.isAgg31 Tryz.sizeOf31 rfl f (by rfl)) ?_
  refine wl_call rfl (C_checkStateBad _ f10.to_RI f10_1.to_RKs f10_2.to_RKs rfl rfl rfl (by omega) (by omega) (by omega) (by omega) (by omega)) ?_
  rintro v12 w12 ⟨rfl, b12⟩
  have s12 := b12.size
  replace hw := hw.trans (b12.mono hw.size)
  replace f10 := f10.u b12
  replace f10_1 := f10_1.u b12
  replace f10_2 := f10_2.u b12
  replace f5 := f5.u b12
  replace f4 := f4.u b12
  replace f6 := f6.u b12
  replace f := f.u b12
  refine zp (o_ne rfl rfl) ?_
  refine wl_nil ?_
  refine rk_true rfl ?_
  refine zs ?_
  refine wl_r (o_loadag Tryz.isAgg31 Tryz.sizeOf31 rfl f (by rfl)) ?_
  refine wl_storega Tryz.sizeOf31 rfl rfl (by rfl) (oneCell_of (by rfl)) f6 (by rfl) ?_
  rintro w_2 f_1 g_1 e_1
  have s_1 := g_1.size
  replace hw := hw.trans (below_of_grownBy g_1.g hw.size (by omega))
  replace f := f.k g_1.g (ap_some (by omega))
  replace f4 := f4.k g_1.g (ap_some (by omega))
  replace f5 := f5.k g_1.g (ap_some (by omega))
  replace f10_2 := f10_2.y g_1 (by decide)
  replace f10_1 := f10_1.y g_1 (by decide)
  replace f10 := f10.y g_1 (by decide)
  clear f6
  refine za rfl (wl_nil ?_)
  refine ret_any rfl (.cell rfl Tryz.isAgg31 Tryz.sizeOf31 (by assumption) rfl <| .tmp rfl <| .nil) (by simp) ?_
  exact ⟨A10, c10, B10, d10, C10, e10, rfl, f10.base (by omega) (by omega), f10_1.base (by omega) (by omega), f10_2.base (by omega) (by omega), hw⟩
end Go.Proofs.YtahkeoegbjopfaaGreat
namespace Go.Proofs.YtahkeoegbjopfaaGreat
set_option maxRecDepth 100000
open Go.RowKit
theorem C_kOwn {A : Option Addr} {p : By} {n c : Nat} (w : World) (hp : Rd w A p) (hn : n = p.length) (hl : p.length ≤ 4000000000) :
  CallsR Tryz.prog 14 [.slice A n c] w fun v w' => ∃ A' c', v = .slice A' p.length c' ∧ OwnH w' w.heap.size w'.heap.size A' c' p ∧ Below w.heap.size w w' := by
 subst hn
 refine callsR Tryz.func14 rfl rfl (by kernel_rfl) rfl ?_
 have hw := Below.refl w.heap.size w
 refine zs (za rfl (wl_nil (zs ?_)))
 refine wl_litB [] Tryz.u8 Tryz.sizeOf5 Tryz.zeroValue5 (by rfl) rfl rfl (by rfl) (by rfl) (by rfl) ?_
 rintro A3 w3 f3 b3
 have qf3 := f3.cap
 have s3 := b3.size
 replace hw := hw.trans (b3.mono hw.size)
 refine zm rfl ?_
 refine wl_appB Tryz.u8 rfl f3 (by rfl) rfl (hp.u hw) rfl (by omega) hw.size ?_
 rintro A5 c5 w5 f5 g5 b5 i5
 have qf5 := f5.cap
 have s5 := g5.size
 replace hw := hw.trans (b5.mono (by omega))
 clear f3
 refine za rfl (wl_nil ?_)
 rw [List.nil_append] at f5 ⊢
 refine ret1 rfl rfl ?_
 exact ⟨_, _, rfl, f5, hw⟩
theorem C_kItem {A1 A2 B1 B2 : Option Addr} {a1 a2 b1 b2 : By} {c1 c2 d1 d2 n1 n2 m1 m2 : Nat} (w : World) (h1 : Rd w A1 a1) (h2 : Rd w A2 a2) (h3 : Rd w B1 b1) (h4 : Rd w B2 b2) (e1 : n1 = a1.length) (e2 : n2 = a2.length) (e3 : m1 = b1.length) (e4 : m2 = b2.length) :
  CallsR Tryz.prog 89 [.agg #[.slice A1 n1 c1, .slice A2 n2 c2], .agg #[.slice B1 m1 d1, .slice B2 m2 d2]] w fun v w' => v = .bool (decide ((a1, a2) = (b1, b2))) ∧ Below w.heap.size w w' := by
 subst e1; subst e2; subst e3; subst e4
 refine callsR Tryz.func89 rfl rfl (by kernel_rfl) rfl ?_
 have hw := Below.refl w.heap.size w
 by_cases ha : a1 = b1
 ·refine zs ?_
  refine wl_boxg [_, _] rfl (by rfl) ?_
  rintro g2 w2 f2 b2_1 i2 i2_1
  have s2 := b2_1.size
  replace hw := hw.trans (b2_1.mono hw.size)
  refine wl_boxg [_, _] rfl (by rfl) ?_
  rintro g3 w3 f3 b3 i3 i3_1
  have s3 := b3.size
  replace hw := hw.trans (b3.mono hw.size)
  replace f2 := f2.u b3
  refine za rfl (wl_nil (zs ?_))
  refine zp (o_faddr (s := 94) (i := 0) (off := 0) Tryz.underlying94 rfl Tryz.sizeOf39 rfl rfl rfl) ?_
  refine wl_r (o_loadbg Tryz.isAgg39 rfl f2 (by rfl)) ?_
  refine wl_r (o_strU Tryz.underlying39 Tryz.underlying5 Tryz.underlying9 rfl h1 hw rfl) ?_
  refine zp (o_faddr (s := 94) (i := 0) (off := 0) Tryz.underlying94 rfl Tryz.sizeOf39 rfl rfl rfl) ?_
  refine wl_r (o_loadbg Tryz.isAgg39 rfl f3 (by rfl)) ?_
  refine wl_r (o_strU Tryz.underlying39 Tryz.underlying5 Tryz.underlying9 rfl h3 hw rfl) ?_
  refine zp (o_seq rfl rfl) ?_
  refine zm rfl ?_
  refine wl_know 12 true rfl (decide_eq_true (by omega)) ?_
  refine zp (o_faddr (s := 94) (i := 1) (off := 1) Tryz.underlying94 rfl Tryz.sizeOf39 rfl rfl rfl) ?_
  refine wl_r (o_loadbg Tryz.isAgg39 rfl f2 (by rfl)) ?_
  refine wl_r (o_strU Tryz.underlying39 Tryz.underlying5 Tryz.underlying9 rfl h2 hw rfl) ?_
  refine zp (o_faddr (s := 94) (i := 1) (off := 1) Tryz.underlying94 rfl Tryz.sizeOf39 rfl rfl rfl) ?_
  refine wl_r (o_loadbg Tryz.isAgg39 rfl f3 (by rfl)) ?_
  refine wl_r (o_strU Tryz.underlying39 Tryz.underlying5 Tryz.underlying9 rfl h4 hw rfl) ?_
  refine zp (o_seq rfl rfl) ?_
  refine zp (o_pick_t rfl rfl) ?_
  refine za rfl (wl_nil ?_)
  refine ret1 rfl rfl ?_
  exact ⟨by simp [ha], hw⟩
 ·refine zs ?_
  refine wl_boxg [_, _] rfl (by rfl) ?_
  rintro g2 w2 f2 b2_1 i2 i2_1
  have s2 := b2_1.size
  replace hw := hw.trans (b2_1.mono hw.size)
  refine wl_boxg [_, _] rfl (by rfl) ?_
  rintro g3 w3 f3 b3 i3 i3_1
  have s3 := b3.size
  replace hw := hw.trans (b3.mono hw.size)
  replace f2 := f2.u b3
  refine za rfl (wl_nil (zs ?_))
  refine zp (o_faddr (s := 94) (i := 0) (off := 0) Tryz.underlying94 rfl Tryz.sizeOf39 rfl rfl rfl) ?_
  refine wl_r (o_loadbg Tryz.isAgg39 rfl f2 (by rfl)) ?_
  refine wl_r (o_strU Tryz.underlying39 Tryz.underlying5 Tryz.underlying9 rfl h1 hw rfl) ?_
  refine zp (o_faddr (s := 94) (i := 0) (off := 0) Tryz.underlying94 rfl Tryz.sizeOf39 rfl rfl rfl) ?_
  refine wl_r (o_loadbg Tryz.isAgg39 rfl f3 (by rfl)) ?_
  refine wl_r (o_strU Tryz.underlying39 Tryz.underlying5 Tryz.underlying9 rfl h3 hw rfl) ?_
  refine zp (o_seq rfl rfl) ?_
  refine zm rfl ?_
  refine wl_know 12 false rfl (decide_eq_false (by omega)) ?_
  refine wl_off (wl_off (wl_off (wl_off (wl_off (wl_off (wl_off ?_))))))
  refine zp (o_pick_f rfl rfl) ?_
  refine za rfl (wl_nil ?_)
  refine ret1 rfl rfl ?_
  exact ⟨by simp [ha], hw⟩
theorem C_kItems {A B : Option Addr} {L M : List (By × By)} {n c m d : Nat} (w : World) (hA : RI w A L) (hB : RI w B M) (hn : n = L.length) (hm : m = M.length) (hl : L.length ≤ 4000000) (hl2 : M.length ≤ 4000000) :
  CallsR Tryz.prog 47 [.slice A n c, .slice B m d] w fun v w' => v = .bool (decide (L = M)) ∧ Below w.heap.size w w' := by
 subst hn; subst hm
 refine callsR Tryz.func47 rfl rfl (by kernel_rfl) rfl ?_
 have hw := Below.refl w.heap.size w
 refine zs (za rfl (wl_nil (rk_seq (zs (zm rfl ?_)))))
 refine zp (o_len (t := 28) Tryz.underlying28 rfl) ?_
 refine zm rfl ?_
 refine zp (o_len (t := 28) Tryz.underlying28 rfl) ?_
 refine zp (o_ne rfl rfl) ?_
 refine wl_nil ?_
 refine rk_if rfl (fun h10 => ?_) (fun h10 => ?_)
 ·refine zs ?_
  refine za rfl (wl_nil ?_)
  refine ret1 rfl rfl ?_
  exact ⟨by rw [decide_eq_false (fun e : L = M => h10 (by rw [e]))], hw⟩
 refine rk_skip (rk_seq (zs (za rfl (wl_nil (rk_block ?_)))))
 refine rk_joinf (fun fb fr w2 => fr = [] ++ fb.drop 1 ∧ L = M ∧ Below w.heap.size w w2) ?_ (fun ks hj => ?_)
 rotate_left
 ·refine rk_loopf (fun fb m fr w2 => ∃ (i : Nat) (v : Int), fr = [(5, .int .i64 v)] ++ fb.drop 1 ∧ v = i ∧ i ≤ L.length ∧ m = L.length - i ∧ L.take i = M.take i ∧ Below w.heap.size w w2) (n := L.length) (Fr.le_of (by kernel_rfl) (by kernel_rfl) (by repeat' constructor)) ⟨0, _, rfl, rfl, by omega, rfl, rfl, hw⟩ ?_
  clear hw
  rintro m fr w2 ⟨i, v, rfl, rfl, hi, rfl, ht, hw⟩
  have shw := hw.size
  first | refine zf ?_ | refine zg ?_
  refine rk_seq (zs (zm rfl (zm rfl ?_)))
  refine zp (o_len (t := 28) Tryz.underlying28 rfl) ?_
  refine zp (o_lt rfl rfl) ?_
  refine wl_nil ?_
  refine rk_if rfl (fun h14 => ?_) (fun h14 => ?_)
  ·have hiL : i < L.length := by omega
   have hiM : i < M.length := by omega
   by_cases he : (L[i].1, L[i].2) = (M[i].1, M[i].2)
   ·refine rk_skip ?_
    refine rk_seq (rk_block (rk_seq ?_))
    refine rk_draw (id := 6) (none) [0, 0, 3, 4, 0, 0, 48, 64, 136, 256] [0, 0, 3, 7, 0, 0, 48, 112, 255, 511] 256 0 [(.p, 0), (.p, 1), (.p, 2), (.r, 3), (.p, 4), (.p, 5), (.p, 6), (.r, 7), (.l, 8), (.p, 9)] (by kernel_rfl) (by kernel_rfl) (by kernel_rfl) (by kernel_rfl) (by kernel_rfl) ?_
    replace hw := hw.drew
    refine zm rfl (zm rfl ?_)
    refine zp (o_iaddrA (i) Tryz.underlying28 Tryz.sizeOf94 rfl rfl rfl (hA.some_ (by omega)) (by omega)) ?_
    refine wl_ldItem rfl hA hw (by omega) ?_
    rintro A120 c120 A220 c220 f20 f20_1 i20 i20_1
    refine zm rfl (zm rfl ?_)
    refine zp (o_iaddrA (i) Tryz.underlying28 Tryz.sizeOf94 rfl rfl rfl (hB.some_ (by omega)) (by omega)) ?_
    refine wl_ldItem rfl hB hw (by omega) ?_
    rintro A124 c124 A224 c224 f24 f24_1 i24 i24_1
    refine wl_call rfl (C_kItem _ (f20.u hw) (f20_1.u hw) (f24.u hw) (f24_1.u hw) rfl rfl rfl rfl) ?_
    rintro v25 w25 ⟨rfl, b25⟩
    simp only [drew_size] at b25
    have s25 := b25.size
    simp only [drew_size] at s25
    replace hw := hw.trans (b25.mono hw.size)
    refine zp (o_not rfl) ?_
    refine wl_nild ?_
    rw [decide_eq_true he]
    refine rk_false rfl ?_
    refine rk_skip ?_
    refine rk_blk ?_
    refine rk_region (zm rfl ?_)
    refine zp (o_add rfl rfl (by omega) (by omega)) ?_
    refine za rfl (wl_nil ?_)
    exact rk_againf (Fr.le_of (by kernel_rfl) (by kernel_rfl) (by repeat' constructor)) ⟨i + 1, (i : Int) + 1, rfl, by omega, by omega, rfl, by rw [List.take_succ_eq_append_getElem hiL, List.take_succ_eq_append_getElem hiM, ht]; exact congrArg (fun x => M.take i ++ [x]) he, hw⟩ (by omega)
   ·refine rk_skip ?_
    refine rk_seq (rk_block (rk_seq ?_))
    refine rk_draw (id := 6) (none) [0, 0, 3, 4, 0, 0, 48, 64, 136, 256] [0, 0, 3, 7, 0, 0, 48, 112, 255, 511] 256 0 [(.p, 0), (.p, 1), (.p, 2), (.r, 3), (.p, 4), (.p, 5), (.p, 6), (.r, 7), (.l, 8), (.p, 9)] (by kernel_rfl) (by kernel_rfl) (by kernel_rfl) (by kernel_rfl) (by kernel_rfl) ?_
    replace hw := hw.drew
    refine zm rfl (zm rfl ?_)
    refine zp (o_iaddrA (i) Tryz.underlying28 Tryz.sizeOf94 rfl rfl rfl (hA.some_ (by omega)) (by omega)) ?_
    refine wl_ldItem rfl hA hw (by omega) ?_
    rintro A120 c120 A220 c220 f20 f20_1 i20 i20_1
    refine zm rfl (zm rfl ?_)
    refine zp (o_iaddrA (i) Tryz.underlying28 Tryz.sizeOf94 rfl rfl rfl (hB.some_ (by omega)) (by omega)) ?_
    refine wl_ldItem rfl hB hw (by omega) ?_
    rintro A124 c124 A224 c224 f24 f24_1 i24 i24_1
    refine wl_call rfl (C_kItem _ (f20.u hw) (f20_1.u hw) (f24.u hw) (f24_1.u hw) rfl rfl rfl rfl) ?_
    rintro v25 w25 ⟨rfl, b25⟩
    simp only [drew_size] at b25
    have s25 := b25.size
    simp only [drew_size] at s25
    replace hw := hw.trans (b25.mono hw.size)
    refine zp (o_not rfl) ?_
    refine wl_nild ?_
    rw [decide_eq_false he]
    refine rk_true rfl ?_
    refine zs (za rfl (wl_nil ?_))
    refine ret1 rfl rfl ?_
    exact ⟨by rw [decide_eq_false (fun e : L = M => he (by subst e; rfl))], hw⟩
  ·refine rk_exit rfl ?_
   have e : L = M := by
    rw [List.take_of_length_le (by omega), List.take_of_length_le (by omega)] at ht
    exact ht
   exact rk_tof hj (Fr.le_of (by kernel_rfl) (by kernel_rfl) (by repeat' constructor)) ⟨rfl, e, hw⟩
 clear hw
 rintro fr w2 ⟨rfl, e, hw⟩
 first | refine zf ?_ | refine zg ?_
 refine zs (za rfl (wl_nil ?_))
 refine ret1 rfl rfl ?_
 exact ⟨by rw [decide_eq_true e], hw⟩
theorem C_kKeys {A B : Option Addr} {L M : List Ky} {n c m d : Nat} (w : World) (hA : RKs w A L) (hB : RKs w B M) (hn : n = L.length) (hm : m = M.length) (hl : L.length ≤ 4000000) (hl2 : M.length ≤ 4000000) :
  CallsR Tryz.prog 27 [.slice A n c, .slice B m d] w fun v w' => v = .bool (decide (L = M)) ∧ Below w.heap.size w w' := by
 subst hn; subst hm
 refine callsR Tryz.func27 rfl rfl (by kernel_rfl) rfl ?_
 have hw := Below.refl w.heap.size w
 refine zs (za rfl (wl_nil (rk_seq (zs (zm rfl ?_)))))
 refine zp (o_len (t := 29) Tryz.underlying29 rfl) ?_
 refine zm rfl ?_
 refine zp (o_len (t := 29) Tryz.underlying29 rfl) ?_
 refine zp (o_ne rfl rfl) ?_
 refine wl_nil ?_
 refine rk_if rfl (fun h10 => ?_) (fun h10 => ?_)
 ·refine zs ?_
  refine za rfl (wl_nil ?_)
  refine ret1 rfl rfl ?_
  exact ⟨by rw [decide_eq_false (fun e : L = M => h10 (by rw [e]))], hw⟩
 refine rk_skip (rk_seq (zs (za rfl (wl_nil (rk_block ?_)))))
 refine rk_joinf (fun fb fr w2 => fr = [] ++ fb.drop 1 ∧ L = M ∧ Below w.heap.size w w2) ?_ (fun ks hj => ?_)
 rotate_left
 ·refine rk_loopf (fun fb m fr w2 => ∃ (i : Nat) (v : Int), fr = [(5, .int .i64 v)] ++ fb.drop 1 ∧ v = i ∧ i ≤ L.length ∧ m = L.length - i ∧ L.take i = M.take i ∧ Below w.heap.size w w2) (n := L.length) (Fr.le_of (by kernel_rfl) (by kernel_rfl) (by repeat' constructor)) ⟨0, _, rfl, rfl, by omega, rfl, rfl, hw⟩ ?_
  clear hw
  rintro m fr w2 ⟨i, v, rfl, rfl, hi, rfl, ht, hw⟩
  have shw := hw.size
  first | refine zf ?_ | refine zg ?_
  refine rk_seq (zs (zm rfl (zm rfl ?_)))
  refine zp (o_len (t := 29) Tryz.underlying29 rfl) ?_
  refine zp (o_lt rfl rfl) ?_
  refine wl_nil ?_
  refine rk_if rfl (fun h14 => ?_) (fun h14 => ?_)
  ·have hiL : i < L.length := by omega
   have hiM : i < M.length := by omega
   refine rk_skip (rk_seq (rk_block (rk_seq ?_)))
   refine rk_draw (id := 6) (none) [0, 0, 3, 4, 0, 0, 48, 64, 136] [0, 0, 3, 7, 0, 0, 48, 112, 255] 0 0 [(.p, 0), (.p, 1), (.p, 2), (.r, 3), (.p, 4), (.p, 5), (.p, 6), (.r, 7), (.p, 8)] (by kernel_rfl) (by kernel_rfl) (by kernel_rfl) (by kernel_rfl) (by kernel_rfl) ?_
   replace hw := hw.drew
   refine zm rfl (zm rfl ?_)
   refine zp (o_iaddrA (i) Tryz.underlying29 Tryz.sizeOf42 rfl rfl rfl (hA.some_ (by omega)) (by omega)) ?_
   refine wl_r (o_ldKs rfl hA hw (by omega)) ?_
   refine zm rfl (zm rfl ?_)
   refine zp (o_iaddrA (i) Tryz.underlying29 Tryz.sizeOf42 rfl rfl rfl (hB.some_ (by omega)) (by omega)) ?_
   refine wl_r (o_ldKs rfl hB hw (by omega)) ?_
   refine zp (o_neKy rfl rfl) ?_
   refine wl_nild ?_
   refine rk_if rfl (fun h25 => ?_) (fun h25 => ?_)
   ·refine zs ?_
    refine za rfl (wl_nil ?_)
    refine ret1 rfl rfl ?_
    exact ⟨by rw [decide_eq_false (fun e : L = M => h25 (by subst e; rfl))], hw⟩
   ·refine rk_skip ?_
    refine rk_blk ?_
    refine rk_region (zm rfl ?_)
    refine zp (o_add rfl rfl (by omega) (by omega)) ?_
    refine za rfl (wl_nil ?_)
    exact rk_againf (Fr.le_of (by kernel_rfl) (by kernel_rfl) (by repeat' constructor)) ⟨i + 1, (i : Int) + 1, rfl, by omega, by omega, rfl, by rw [List.take_succ_eq_append_getElem hiL, List.take_succ_eq_append_getElem hiM, ht, Decidable.of_not_not h25], hw⟩ (by omega)
  ·refine rk_exit rfl ?_
   have e : L = M := by
    rw [List.take_of_length_le (by omega), List.take_of_length_le (by omega)] at ht
    exact ht
   exact rk_tof hj (Fr.le_of (by kernel_rfl) (by kernel_rfl) (by repeat' constructor)) ⟨rfl, e, hw⟩
 clear hw
 rintro fr w2 ⟨rfl, e, hw⟩
 first | refine zf ?_ | refine zg ?_
 refine zs (za rfl (wl_nil ?_))
 refine ret1 rfl rfl ?_
 exact ⟨by rw [decide_eq_true e], hw⟩
theorem C_kState {A K B A2 K2 B2 : Option Addr} {L M : List (By × By)} {X Y X2 Y2 : List Ky} {n q m c e d n2 q2 m2 c2 e2 d2 : Nat} (w : World) (hA : RI w A L) (hK : RKs w K X) (hB : RKs w B Y) (hA2 : RI w A2 M) (hK2 : RKs w K2 X2) (hB2 : RKs w B2 Y2) (hn : n = L.length) (hq : q = X.length) (hm : m = Y.length) (hn2 : n2 = M.length) (hq2 : q2 = X2.length) (hm2 : m2 = Y2.length) (hl : L.length ≤ 4000000) (hl2 : M.length ≤ 4000000) (hl3 : X.length ≤ 4000000) (hl4 : Y.length ≤ 4000000) (hl5 : X2.length ≤ 4000000) (hl6 : Y2.length ≤ 4000000) :
  CallsR Tryz.prog 18 [.agg #[.slice A n c, .slice K q e, .slice B m d], .agg #[.slice A2 n2 c2, .slice K2 q2 e2, .slice B2 m2 d2]] w fun v w' => v = .bool (decide ((L, X, Y) = (M, X2, Y2))) ∧ Below w.heap.size w w' := by
 subst hn; subst hm; subst hn2; subst hm2; subst hq; subst hq2
 refine callsR Tryz.func18 rfl rfl (by kernel_rfl) rfl ?_
 have hw := Below.refl w.heap.size w
 by_cases h1 : L = M
 ·by_cases h2 : X = X2
  ·refine zs ?_
   refine wl_boxg [_, _, _] rfl (by rfl) ?_
   rintro g2 w2 f2 b2 i2 i2_1
   have s2 := b2.size
   replace hw := hw.trans (b2.mono hw.size)
   refine wl_boxg [_, _, _] rfl (by rfl) ?_
   rintro g3 w3 f3 b3 i3 i3_1
   have s3 := b3.size
   replace hw := hw.trans (b3.mono hw.size)
   replace f2 := f2.u b3
   refine za rfl (wl_nil (zs ?_))
   refine zp (o_faddr (s := 31) (i := 0) (off := 0) Tryz.underlying31 rfl Tryz.sizeOf28 rfl rfl rfl) ?_
   refine wl_r (o_loadbg Tryz.isAgg28 rfl f2 (by rfl)) ?_
   refine zp (o_faddr (s := 31) (i := 0) (off := 0) Tryz.underlying31 rfl Tryz.sizeOf28 rfl rfl rfl) ?_
   refine wl_r (o_loadbg Tryz.isAgg28 rfl f3 (by rfl)) ?_
   refine wl_call rfl (C_kItems _ (hA.u hw) (hA2.u hw) rfl rfl (by omega) (by omega)) ?_
   rintro v9 w9 ⟨rfl, b9⟩
   have s9 := b9.size
   replace hw := hw.trans (b9.mono hw.size)
   replace f2 := f2.u b9
   replace f3 := f3.u b9
   refine zm rfl ?_
   refine wl_know 10 true rfl (decide_eq_true (by omega)) ?_
   refine zp (o_faddr (s := 31) (i := 1) (off := 1) Tryz.underlying31 rfl Tryz.sizeOf29 rfl rfl rfl) ?_
   refine wl_r (o_loadbg Tryz.isAgg29 rfl f2 (by rfl)) ?_
   refine zp (o_faddr (s := 31) (i := 1) (off := 1) Tryz.underlying31 rfl Tryz.sizeOf29 rfl rfl rfl) ?_
   refine wl_r (o_loadbg Tryz.isAgg29 rfl f3 (by rfl)) ?_
   refine wl_call rfl (C_kKeys _ (hK.u hw) (hK2.u hw) rfl rfl (by omega) (by omega)) ?_
   rintro v15 w15 ⟨rfl, b15⟩
   have s15 := b15.size
   replace hw := hw.trans (b15.mono hw.size)
   replace f3 := f3.u b15
   replace f2 := f2.u b15
   refine zp (o_pick_t rfl rfl) ?_
   refine zm rfl ?_
   refine wl_know 17 true rfl (decide_eq_true (by omega)) ?_
   refine zp (o_faddr (s := 31) (i := 2) (off := 2) Tryz.underlying31 rfl Tryz.sizeOf29 rfl rfl rfl) ?_
   refine wl_r (o_loadbg Tryz.isAgg29 rfl f2 (by rfl)) ?_
   refine zp (o_faddr (s := 31) (i := 2) (off := 2) Tryz.underlying31 rfl Tryz.sizeOf29 rfl rfl rfl) ?_
   refine wl_r (o_loadbg Tryz.isAgg29 rfl f3 (by rfl)) ?_
   refine wl_call rfl (C_kKeys _ (hB.u hw) (hB2.u hw) rfl rfl (by omega) (by omega)) ?_
   rintro v22 w22 ⟨rfl, b22⟩
   have s22 := b22.size
   replace hw := hw.trans (b22.mono hw.size)
   replace f2 := f2.u b22
   replace f3 := f3.u b22
   refine zp (o_pick_t rfl rfl) ?_
   refine za rfl (wl_nil ?_)
   refine ret1 rfl rfl ?_
   exact ⟨by simp [h1, h2], hw⟩
  ·refine zs ?_
   refine wl_boxg [_, _, _] rfl (by rfl) ?_
   rintro g2 w2 f2 b2 i2 i2_1
   have s2 := b2.size
   replace hw := hw.trans (b2.mono hw.size)
   refine wl_boxg [_, _, _] rfl (by rfl) ?_
   rintro g3 w3 f3 b3 i3 i3_1
   have s3 := b3.size
   replace hw := hw.trans (b3.mono hw.size)
   replace f2 := f2.u b3
   refine za rfl (wl_nil (zs ?_))
   refine zp (o_faddr (s := 31) (i := 0) (off := 0) Tryz.underlying31 rfl Tryz.sizeOf28 rfl rfl rfl) ?_
   refine wl_r (o_loadbg Tryz.isAgg28 rfl f2 (by rfl)) ?_
   refine zp (o_faddr (s := 31) (i := 0) (off := 0) Tryz.underlying31 rfl Tryz.sizeOf28 rfl rfl rfl) ?_
   refine wl_r (o_loadbg Tryz.isAgg28 rfl f3 (by rfl)) ?_
   refine wl_call rfl (C_kItems _ (hA.u hw) (hA2.u hw) rfl rfl (by omega) (by omega)) ?_
   rintro v9 w9 ⟨rfl, b9⟩
   have s9 := b9.size
   replace hw := hw.trans (b9.mono hw.size)
   replace f2 := f2.u b9
   replace f3 := f3.u b9
   refine zm rfl ?_
   refine wl_know 10 true rfl (decide_eq_true (by omega)) ?_
   refine zp (o_faddr (s := 31) (i := 1) (off := 1) Tryz.underlying31 rfl Tryz.sizeOf29 rfl rfl rfl) ?_
   refine wl_r (o_loadbg Tryz.isAgg29 rfl f2 (by rfl)) ?_
   refine zp (o_faddr (s := 31) (i := 1) (off := 1) Tryz.underlying31 rfl Tryz.sizeOf29 rfl rfl rfl) ?_
   refine wl_r (o_loadbg Tryz.isAgg29 rfl f3 (by rfl)) ?_
   refine wl_call rfl (C_kKeys _ (hK.u hw) (hK2.u hw) rfl rfl (by omega) (by omega)) ?_
   rintro v15 w15 ⟨rfl, b15⟩
   have s15 := b15.size
   replace hw := hw.trans (b15.mono hw.size)
   replace f3 := f3.u b15
   replace f2 := f2.u b15
   refine zp (o_pick_t rfl rfl) ?_
   refine zm rfl ?_
   refine wl_know 17 false rfl (decide_eq_false (by omega)) ?_
   refine wl_off (wl_off (wl_off (wl_off (wl_off ?_))))
   refine zp (o_pick_f rfl rfl) ?_
   refine za rfl (wl_nil ?_)
   refine ret1 rfl rfl ?_
   exact ⟨by simp [h1, h2], hw⟩
 ·refine zs ?_
  refine wl_boxg [_, _, _] rfl (by rfl) ?_
  rintro g2 w2 f2 b2 i2 i2_1
  have s2 := b2.size
  replace hw := hw.trans (b2.mono hw.size)
  refine wl_boxg [_, _, _] rfl (by rfl) ?_
  rintro g3 w3 f3 b3 i3 i3_1
  have s3 := b3.size
  replace hw := hw.trans (b3.mono hw.size)
  replace f2 := f2.u b3
  refine za rfl (wl_nil (zs ?_))
  refine zp (o_faddr (s := 31) (i := 0) (off := 0) Tryz.underlying31 rfl Tryz.sizeOf28 rfl rfl rfl) ?_
  refine wl_r (o_loadbg Tryz.isAgg28 rfl f2 (by rfl)) ?_
  refine zp (o_faddr (s := 31) (i := 0) (off := 0) Tryz.underlying31 rfl Tryz.sizeOf28 rfl rfl rfl) ?_
  refine wl_r (o_loadbg Tryz.isAgg28 rfl f3 (by rfl)) ?_
  refine wl_call rfl (C_kItems _ (hA.u hw) (hA2.u hw) rfl rfl (by omega) (by omega)) ?_
  rintro v9 w9 ⟨rfl, b9⟩
  have s9 := b9.size
  replace hw := hw.trans (b9.mono hw.size)
  replace f2 := f2.u b9
  replace f3 := f3.u b9
  refine zm rfl ?_
  refine wl_know 10 false rfl (decide_eq_false (by omega)) ?_
  refine wl_off (wl_off (wl_off (wl_off (wl_off ?_))))
  refine zp (o_pick_f rfl rfl) ?_
  refine zm rfl (wl_off (wl_off (wl_off (wl_off (wl_off ?_)))))
  refine zp (o_pick_f rfl rfl) ?_
  refine za rfl (wl_nil ?_)
  refine ret1 rfl rfl ?_
  exact ⟨by simp [h1], hw⟩
section
variable {fn : Func} {F : Ending → World → Prop} {N : Nat} {ks : List K} {ops : Array Oper} {tg : Tags} {l : List Oper} {fr : Fr} {w w0 : World} {ty : TypeId} {pos : String} {aft : Array Edge} {gd : Option (Nat × Bool)} {d0 j o : Nat} {x : Operand} {A : Option Addr} {L : List Opn}
theorem wl_ldOpK (hx : fr.ev x = some (.pointer (some (adr A (j * 35 + o))))) (ho : o = 1) (hr : RO w0 A L) (hb : Below w0.heap.size w0 w) (hj : j < L.length)
  (hk : ∀ K c, Rd w0 K L[j].2.1 → L[j].2.1.length ≤ c → WL Tryz.prog fn F N ks ops tg.tail l ((d0, .slice K L[j].2.1.length c) :: fr) w)
  (ht : tg.reads = true := by rfl) (hg : onG ops fr gd = true := by rfl) (hd : Nat.blt d0 N = true := by rfl) : WL Tryz.prog fn F N ks ops tg (⟨some d0, .load 39 x, ty, pos, aft, gd⟩ :: l) fr w := by
 subst ho
 obtain ⟨K, c, V, d, h1, h2, h3, h4, _⟩ := hr.elem hj
 exact wl_r (o_load (t := 39) Tryz.isAgg39 hx (h1.u hb 1 _ rfl)) (hk K c h2 h4) ht hg hd
theorem wl_ldOpV (hx : fr.ev x = some (.pointer (some (adr A (j * 35 + o))))) (ho : o = 2) (hr : RO w0 A L) (hb : Below w0.heap.size w0 w) (hj : j < L.length)
  (hk : ∀ K c, Rd w0 K L[j].2.2.1 → L[j].2.2.1.length ≤ c → WL Tryz.prog fn F N ks ops tg.tail l ((d0, .slice K L[j].2.2.1.length c) :: fr) w)
  (ht : tg.reads = true := by rfl) (hg : onG ops fr gd = true := by rfl) (hd : Nat.blt d0 N = true := by rfl) : WL Tryz.prog fn F N ks ops tg (⟨some d0, .load 39 x, ty, pos, aft, gd⟩ :: l) fr w := by
 subst ho
 obtain ⟨K, c, V, d, h1, h2, h3, h4, _, h5, _⟩ := hr.elem hj
 exact wl_r (o_load (t := 39) Tryz.isAgg39 hx (h1.u hb 2 _ rfl)) (hk V d h3 h5) ht hg hd
end
def LtO (L : List Opn) (m : Nat) : Prop := L.length ≤ m ∧ ∀ o ∈ L, o.2.1.length ≤ 300 ∧ o.2.2.1.length ≤ 300
set_option maxRecDepth 100000 in
set_option maxHeartbeats 2000000 in
theorem C_lightOps {A : Option Addr} {L : List Opn} {n c m : Nat} {mi : Int} (w : World) (hL : RO w A L) (hn : n = L.length) (hm : mi = (m : Int)) (hl : L.length ≤ 9223372036854775807) (hmm : m ≤ 1000) :
  CallsR Tryz.prog 25 [.slice A n c, .int .i64 mi] w fun v w' => ∃ b, v = .bool b ∧ (b = true ↔ LtO L m) ∧ Below w.heap.size w w' := by
 subst hn; subst hm
 refine callsR Tryz.func25 rfl rfl (by kernel_rfl) rfl ?_
 have hw := Below.refl w.heap.size w
 refine zs (za rfl (wl_nil (rk_seq (zs (zm rfl ?_)))))
 refine zp (o_len (t := 35) Tryz.underlying35 rfl) ?_
 refine zm rfl ?_
 refine zp (o_gt rfl rfl) ?_
 refine wl_nil ?_
 refine rk_if rfl (fun h9 => ?_) (fun h9 => ?_)
 ·refine zs ?_
  refine za rfl (wl_nil ?_)
  refine ret1 rfl rfl ?_
  exact ⟨false, rfl, ⟨fun h => (by cases h), fun h => by have := h.1; omega⟩, hw⟩
 refine rk_skip (rk_seq (zs (za rfl (wl_nil (rk_block ?_)))))
 refine rk_joinf (fun fb fr w2 => fr = [] ++ fb.drop 1 ∧ (∀ j (h : j < L.length), L[j].2.1.length ≤ 300 ∧ L[j].2.2.1.length ≤ 300) ∧ Below w.heap.size w w2) ?_ (fun ks hj => ?_)
 rotate_left
 ·refine rk_loopf (fun fb k fr w2 => ∃ (i : Nat) (v : Int), fr = [(5, .int .i64 v)] ++ fb.drop 1 ∧ v = i ∧ i ≤ L.length ∧ k = L.length - i ∧ (∀ j (h : j < L.length), j < i → L[j].2.1.length ≤ 300 ∧ L[j].2.2.1.length ≤ 300) ∧ Below w.heap.size w w2) (n := L.length) (Fr.le_of (by kernel_rfl) (by kernel_rfl) (by repeat' constructor)) ⟨0, _, rfl, rfl, by omega, rfl, fun j _ h => absurd h (Nat.not_lt_zero _), hw⟩ ?_
  clear hw
  rintro k fr w2 ⟨i, v, rfl, rfl, hi, rfl, hok, hw⟩
  have shw := hw.size
  first | refine zf ?_ | refine zg ?_
  refine rk_seq (zs (zm rfl (zm rfl ?_)))
  refine zp (o_len (t := 35) Tryz.underlying35 rfl) ?_
  refine zp (o_lt rfl rfl) ?_
  refine wl_nil ?_
  refine rk_if rfl (fun h13 => ?_) (fun h13 => ?_)
  ·have hil : i < L.length := by omega
   by_cases k1 : 300 < L[i].2.1.length
   ·refine rk_skip ?_
    refine rk_seq (rk_block (zs (zm rfl (zm rfl ?_))))
    refine zp (o_iaddrA (i) Tryz.underlying35 Tryz.sizeOf54 rfl rfl rfl (hL.some_ (by omega)) (by omega)) ?_
    refine zp (o_faddrR rfl Tryz.underlying54 (by rfl) Tryz.sizeOf39 (by rfl) (by rfl)) ?_
    refine wl_ldOpK rfl (by rfl) hL hw (by omega) ?_
    rintro K20 c20 f20 i20
    refine zp (o_len (t := 39) Tryz.underlying39 rfl) ?_
    refine zp (o_gt rfl rfl) ?_
    refine zm rfl ?_
    refine wl_know 23 true rfl (decide_eq_true (by omega)) ?_
    refine wl_off (wl_off (wl_off (wl_off (wl_off (wl_off (wl_off ?_))))))
    refine zp (o_pick_t rfl rfl) ?_
    refine wl_nil ?_
    refine rk_true rfl ?_
    refine zs (za rfl (wl_nil ?_))
    refine ret1 rfl rfl ?_
    exact ⟨false, rfl, ⟨fun h => (by cases h), fun h => by have := (h.2 _ (List.getElem_mem hil)).1; omega⟩, hw⟩
   ·by_cases k2 : 300 < L[i].2.2.1.length
    ·refine rk_skip ?_
     refine rk_seq (rk_block (zs (zm rfl (zm rfl ?_))))
     refine zp (o_iaddrA (i) Tryz.underlying35 Tryz.sizeOf54 rfl rfl rfl (hL.some_ (by omega)) (by omega)) ?_
     refine zp (o_faddrR rfl Tryz.underlying54 (by rfl) Tryz.sizeOf39 (by rfl) (by rfl)) ?_
     refine wl_ldOpK rfl (by rfl) hL hw (by omega) ?_
     rintro K20 c20 f20 i20
     refine zp (o_len (t := 39) Tryz.underlying39 rfl) ?_
     refine zp (o_gt rfl rfl) ?_
     refine zm rfl ?_
     refine wl_know 23 false rfl (decide_eq_false (by omega)) ?_
     refine zm rfl (zm rfl ?_)
     refine zp (o_iaddrA (i) Tryz.underlying35 Tryz.sizeOf54 rfl rfl rfl (hL.some_ (by omega)) (by omega)) ?_
     refine zp (o_faddrR rfl Tryz.underlying54 (by rfl) Tryz.sizeOf39 (by rfl) (by rfl)) ?_
     refine wl_ldOpV rfl (by rfl) hL hw (by omega) ?_
     rintro K28 c28 f28 i28
     refine zp (o_len (t := 39) Tryz.underlying39 rfl) ?_
     refine zp (o_gt rfl rfl) ?_
     refine zp (o_pick_f rfl rfl) ?_
     refine wl_nil ?_
     refine rk_if rfl (fun h31 => ?_) (fun h31 => h31.elim (by omega))
     refine zs (za rfl (wl_nil ?_))
     refine ret1 rfl rfl ?_
     exact ⟨false, rfl, ⟨fun h => (by cases h), fun h => by have := (h.2 _ (List.getElem_mem hil)).2; omega⟩, hw⟩
    ·refine rk_skip ?_
     refine rk_seq (rk_block (zs (zm rfl (zm rfl ?_))))
     refine zp (o_iaddrA (i) Tryz.underlying35 Tryz.sizeOf54 rfl rfl rfl (hL.some_ (by omega)) (by omega)) ?_
     refine zp (o_faddrR rfl Tryz.underlying54 (by rfl) Tryz.sizeOf39 (by rfl) (by rfl)) ?_
     refine wl_ldOpK rfl (by rfl) hL hw (by omega) ?_
     rintro K20 c20 f20 i20
     refine zp (o_len (t := 39) Tryz.underlying39 rfl) ?_
     refine zp (o_gt rfl rfl) ?_
     refine zm rfl ?_
     refine wl_know 23 false rfl (decide_eq_false (by omega)) ?_
     refine zm rfl (zm rfl ?_)
     refine zp (o_iaddrA (i) Tryz.underlying35 Tryz.sizeOf54 rfl rfl rfl (hL.some_ (by omega)) (by omega)) ?_
     refine zp (o_faddrR rfl Tryz.underlying54 (by rfl) Tryz.sizeOf39 (by rfl) (by rfl)) ?_
     refine wl_ldOpV rfl (by rfl) hL hw (by omega) ?_
     rintro K28 c28 f28 i28
     refine zp (o_len (t := 39) Tryz.underlying39 rfl) ?_
     refine zp (o_gt rfl rfl) ?_
     refine zp (o_pick_f rfl rfl) ?_
     refine wl_nil ?_
     refine rk_if rfl (fun h31 => absurd h31 (by omega)) (fun h31 => ?_)
     refine rk_skip ?_
     refine rk_blk ?_
     refine rk_region (zm rfl ?_)
     refine zp (o_add rfl rfl (by omega) (by omega)) ?_
     refine za rfl (wl_nil ?_)
     exact rk_againf (Fr.le_of (by kernel_rfl) (by kernel_rfl) (by repeat' constructor)) ⟨i + 1, (i : Int) + 1, rfl, by omega, by omega, rfl, fun j hj hji => by
      rcases Nat.lt_or_ge j i with h | h
      ·exact hok j hj h
      ·obtain rfl : j = i := by omega
       exact ⟨by omega, by omega⟩, hw⟩ (by omega)
  ·refine rk_exit rfl ?_
   exact rk_tof hj (Fr.le_of (by kernel_rfl) (by kernel_rfl) (by repeat' constructor)) ⟨rfl, fun j h => hok j h (by omega), hw⟩
 clear hw
 rintro fr w2 ⟨rfl, hok, hw⟩
 first | refine zf ?_ | refine zg ?_
 refine zs (za rfl (wl_nil ?_))
 refine ret1 rfl rfl ?_
 exact ⟨true, rfl, ⟨fun _ => ⟨by omega, fun o ho => by obtain ⟨j, hj, rfl⟩ := List.getElem_of_mem ho; exact hok j hj⟩, fun _ => rfl⟩, hw⟩
def LtS (I : List (By × By)) (X Y : List Ky) (m : Nat) : Prop := I.length ≤ m ∧ X.length ≤ 40 ∧ Y.length ≤ 40 ∧ ∀ x ∈ I, x.1.length ≤ 300 ∧ x.2.length ≤ 300
set_option maxRecDepth 100000 in
set_option maxHeartbeats 2000000 in
theorem C_lightState {A B C : Option Addr} {I : List (By × By)} {X Y : List Ky} {n c p d q e m : Nat} {mi : Int} (w : World) (hA : RI w A I) (hn : n = I.length) (hp : p = X.length) (hq : q = Y.length) (hm : mi = (m : Int)) (hmm : m ≤ 1000) :
  CallsR Tryz.prog 20 [.agg #[.slice A n c, .slice B p d, .slice C q e], .int .i64 mi] w fun v w' => ∃ b, v = .bool b ∧ (b = true ↔ LtS I X Y m) ∧ Below w.heap.size w w' := by
 subst hn; subst hm; subst hp; subst hq
 refine callsR Tryz.func20 rfl rfl (by kernel_rfl) rfl ?_
 have hw := Below.refl w.heap.size w
 by_cases h1 : m < I.length
 ·refine zs ?_
  refine wl_boxg [_, _, _] rfl (by rfl) ?_
  rintro g2 w2 f2 b2 i2 i2_1
  have s2 := b2.size
  replace hw := hw.trans (b2.mono hw.size)
  refine za rfl (wl_nil (rk_seq (zs ?_)))
  refine zp (o_faddr (s := 31) (i := 0) (off := 0) Tryz.underlying31 rfl Tryz.sizeOf28 rfl rfl rfl) ?_
  refine wl_r (o_loadbg Tryz.isAgg28 rfl f2 (by rfl)) ?_
  refine zp (o_len (t := 28) Tryz.underlying28 rfl) ?_
  refine zm rfl ?_
  refine zp (o_gt rfl rfl) ?_
  refine zm rfl ?_
  refine wl_know 11 true rfl (decide_eq_true (by omega)) ?_
  refine wl_off (wl_off (wl_off (wl_off ?_)))
  refine zp (o_pick_t rfl rfl) ?_
  refine zm rfl (wl_off (wl_off (wl_off (wl_off ?_))))
  refine zp (o_pick_t rfl rfl) ?_
  refine wl_nil ?_
  refine rk_true rfl ?_
  refine zs (za rfl (wl_nil ?_))
  refine ret1 rfl rfl ?_
  exact ⟨false, rfl, ⟨fun h => (by cases h), fun h => by have := h.1; omega⟩, hw⟩
 by_cases h2 : 40 < X.length
 ·refine zs ?_
  refine wl_boxg [_, _, _] rfl (by rfl) ?_
  rintro g2 w2 f2 b2 i2 i2_1
  have s2 := b2.size
  replace hw := hw.trans (b2.mono hw.size)
  refine za rfl (wl_nil (rk_seq (zs ?_)))
  refine zp (o_faddr (s := 31) (i := 0) (off := 0) Tryz.underlying31 rfl Tryz.sizeOf28 rfl rfl rfl) ?_
  refine wl_r (o_loadbg Tryz.isAgg28 rfl f2 (by rfl)) ?_
  refine zp (o_len (t := 28) Tryz.underlying28 rfl) ?_
  refine zm rfl ?_
  refine zp (o_gt rfl rfl) ?_
  refine zm rfl ?_
  refine wl_know 11 false rfl (decide_eq_false (by omega)) ?_
  refine zp (o_faddr (s := 31) (i := 1) (off := 1) Tryz.underlying31 rfl Tryz.sizeOf29 rfl rfl rfl) ?_
  refine wl_r (o_loadbg Tryz.isAgg29 rfl f2 (by rfl)) ?_
  refine zp (o_len (t := 29) Tryz.underlying29 rfl) ?_
  refine zp (o_gt rfl rfl) ?_
  refine zp (o_pick_f rfl rfl) ?_
  refine zm rfl ?_
  refine wl_know 17 true rfl (decide_eq_true (by omega)) ?_
  refine wl_off (wl_off (wl_off (wl_off ?_)))
  refine zp (o_pick_t rfl rfl) ?_
  refine wl_nil ?_
  refine rk_true rfl ?_
  refine zs (za rfl (wl_nil ?_))
  refine ret1 rfl rfl ?_
  exact ⟨false, rfl, ⟨fun h => (by cases h), fun h => by have := h.2.1; omega⟩, hw⟩
 by_cases h3 : 40 < Y.length
 ·refine zs ?_
  refine wl_boxg [_, _, _] rfl (by rfl) ?_
  rintro g2 w2 f2 b2 i2 i2_1
  have s2 := b2.size
  replace hw := hw.trans (b2.mono hw.size)
  refine za rfl (wl_nil (rk_seq (zs ?_)))
  refine zp (o_faddr (s := 31) (i := 0) (off := 0) Tryz.underlying31 rfl Tryz.sizeOf28 rfl rfl rfl) ?_
  refine wl_r (o_loadbg Tryz.isAgg28 rfl f2 (by rfl)) ?_
  refine zp (o_len (t := 28) Tryz.underlying28 rfl) ?_
  refine zm rfl ?_
  refine zp (o_gt rfl rfl) ?_
  refine zm rfl ?_
  refine wl_know 11 false rfl (decide_eq_false (by omega)) ?_
  refine zp (o_faddr (s := 31) (i := 1) (off := 1) Tryz.underlying31 rfl Tryz.sizeOf29 rfl rfl rfl) ?_
  refine wl_r (o_loadbg Tryz.isAgg29 rfl f2 (by rfl)) ?_
  refine zp (o_len (t := 29) Tryz.underlying29 rfl) ?_
  refine zp (o_gt rfl rfl) ?_
  refine zp (o_pick_f rfl rfl) ?_
  refine zm rfl ?_
  refine wl_know 17 false rfl (decide_eq_false (by omega)) ?_
  refine zp (o_faddr (s := 31) (i := 2) (off := 2) Tryz.underlying31 rfl Tryz.sizeOf29 rfl rfl rfl) ?_
  refine wl_r (o_loadbg Tryz.isAgg29 rfl f2 (by rfl)) ?_
  refine zp (o_len (t := 29) Tryz.underlying29 rfl) ?_
  refine zp (o_gt rfl rfl) ?_
  refine zp (o_pick_f rfl rfl) ?_
  refine wl_nil ?_
  refine rk_if rfl (fun h22 => ?_) (fun h22 => h22.elim (by omega))
  refine zs (za rfl (wl_nil ?_))
  refine ret1 rfl rfl ?_
  exact ⟨false, rfl, ⟨fun h => (by cases h), fun h => by have := h.2.2.1; omega⟩, hw⟩
 refine zs ?_
 refine wl_boxg [_, _, _] rfl (by rfl) ?_
 rintro g2 w2 f2 b2 i2 i2_1
 have s2 := b2.size
 replace hw := hw.trans (b2.mono hw.size)
 refine za rfl (wl_nil (rk_seq (zs ?_)))
 refine zp (o_faddr (s := 31) (i := 0) (off := 0) Tryz.underlying31 rfl Tryz.sizeOf28 rfl rfl rfl) ?_
 refine wl_r (o_loadbg Tryz.isAgg28 rfl f2 (by rfl)) ?_
 refine zp (o_len (t := 28) Tryz.underlying28 rfl) ?_
 refine zm rfl ?_
 refine zp (o_gt rfl rfl) ?_
 refine zm rfl ?_
 refine wl_know 11 false rfl (decide_eq_false (by omega)) ?_
 refine zp (o_faddr (s := 31) (i := 1) (off := 1) Tryz.underlying31 rfl Tryz.sizeOf29 rfl rfl rfl) ?_
 refine wl_r (o_loadbg Tryz.isAgg29 rfl f2 (by rfl)) ?_
 refine zp (o_len (t := 29) Tryz.underlying29 rfl) ?_
 refine zp (o_gt rfl rfl) ?_
 refine zp (o_pick_f rfl rfl) ?_
 refine zm rfl ?_
 refine wl_know 17 false rfl (decide_eq_false (by omega)) ?_
 refine zp (o_faddr (s := 31) (i := 2) (off := 2) Tryz.underlying31 rfl Tryz.sizeOf29 rfl rfl rfl) ?_
 refine wl_r (o_loadbg Tryz.isAgg29 rfl f2 (by rfl)) ?_
 refine zp (o_len (t := 29) Tryz.underlying29 rfl) ?_
 refine zp (o_gt rfl rfl) ?_
 refine zp (o_pick_f rfl rfl) ?_
 refine wl_nil ?_
 refine rk_if rfl (fun h22 => absurd h22 (by omega)) (fun h22 => ?_)
 refine rk_skip (rk_seq (zs (za rfl (wl_nil (rk_block ?_)))))
 refine rk_joinf (fun fb fr w3 => fr = [] ++ fb.drop 1 ∧ (∀ j (h : j < I.length), I[j].1.length ≤ 300 ∧ I[j].2.length ≤ 300) ∧ Below w.heap.size w w3) ?_ (fun ks hj => ?_)
 rotate_left
 ·refine rk_loopf (fun fb k fr w3 => ∃ (i : Nat) (v : Int), fr = [(5, .int .i64 v)] ++ fb.drop 1 ∧ v = i ∧ i ≤ I.length ∧ k = I.length - i ∧ (∀ j (h : j < I.length), j < i → I[j].1.length ≤ 300 ∧ I[j].2.length ≤ 300) ∧ Blk w3 g2 31 [.slice A I.length c, .slice B X.length d, .slice C Y.length e] ∧ Below w.heap.size w w3) (n := I.length) (Fr.le_of (by kernel_rfl) (by kernel_rfl) (by repeat' constructor)) ⟨0, _, rfl, rfl, by omega, rfl, fun j _ h => absurd h (Nat.not_lt_zero _), f2, hw⟩ ?_
  clear hw f2
  rintro k fr w3 ⟨i, v, rfl, rfl, hi, rfl, hok, f2, hw⟩
  have shw := hw.size
  first | refine zf ?_ | refine zg ?_
  refine rk_seq (zs (zm rfl ?_))
  refine zp (o_faddr (s := 31) (i := 0) (off := 0) Tryz.underlying31 rfl Tryz.sizeOf28 rfl rfl rfl) ?_
  refine wl_r (o_loadbg Tryz.isAgg28 rfl f2 (by rfl)) ?_
  refine zp (o_len (t := 28) Tryz.underlying28 rfl) ?_
  refine zp (o_lt rfl rfl) ?_
  refine wl_nil ?_
  refine rk_if rfl (fun h27 => ?_) (fun h27 => ?_)
  ·have hil : i < I.length := by omega
   by_cases k1 : 300 < I[i].1.length
   ·refine rk_skip ?_
    refine rk_seq (rk_block (zs ?_))
    refine zp (o_faddr (s := 31) (i := 0) (off := 0) Tryz.underlying31 rfl Tryz.sizeOf28 rfl rfl rfl) ?_
    refine wl_r (o_loadbg Tryz.isAgg28 rfl f2 (by rfl)) ?_
    refine zm rfl ?_
    refine zp (o_iaddrA (i) Tryz.underlying28 Tryz.sizeOf94 rfl rfl rfl (hA.some_ (by omega)) (by omega)) ?_
    refine zp (o_faddrR rfl Tryz.underlying94 (by rfl) Tryz.sizeOf39 (by rfl) (by rfl)) ?_
    refine wl_ldKey rfl hA hw (by omega) ?_
    rintro A135 c135 f35 i35
    refine zp (o_len (t := 39) Tryz.underlying39 rfl) ?_
    refine zp (o_gt rfl rfl) ?_
    refine zm rfl ?_
    refine wl_know 38 true rfl (decide_eq_true (by omega)) ?_
    refine wl_off (wl_off (wl_off (wl_off (wl_off (wl_off (wl_off (wl_off ?_)))))))
    refine zp (o_pick_t rfl rfl) ?_
    refine wl_nil ?_
    refine rk_true rfl ?_
    refine zs (za rfl (wl_nil ?_))
    refine ret1 rfl rfl ?_
    exact ⟨false, rfl, ⟨fun h => (by cases h), fun h => by have := (h.2.2.2 _ (List.getElem_mem hil)).1; omega⟩, hw⟩
   ·by_cases k2 : 300 < I[i].2.length
    ·refine rk_skip ?_
     refine rk_seq (rk_block (zs ?_))
     refine zp (o_faddr (s := 31) (i := 0) (off := 0) Tryz.underlying31 rfl Tryz.sizeOf28 rfl rfl rfl) ?_
     refine wl_r (o_loadbg Tryz.isAgg28 rfl f2 (by rfl)) ?_
     refine zm rfl ?_
     refine zp (o_iaddrA (i) Tryz.underlying28 Tryz.sizeOf94 rfl rfl rfl (hA.some_ (by omega)) (by omega)) ?_
     refine zp (o_faddrR rfl Tryz.underlying94 (by rfl) Tryz.sizeOf39 (by rfl) (by rfl)) ?_
     refine wl_ldKey rfl hA hw (by omega) ?_
     rintro A135 c135 f35 i35
     refine zp (o_len (t := 39) Tryz.underlying39 rfl) ?_
     refine zp (o_gt rfl rfl) ?_
     refine zm rfl ?_
     refine wl_know 38 false rfl (decide_eq_false (by omega)) ?_
     refine zp (o_faddr (s := 31) (i := 0) (off := 0) Tryz.underlying31 rfl Tryz.sizeOf28 rfl rfl rfl) ?_
     refine wl_r (o_loadbg Tryz.isAgg28 rfl f2 (by rfl)) ?_
     refine zm rfl ?_
     refine zp (o_iaddrA (i) Tryz.underlying28 Tryz.sizeOf94 rfl rfl rfl (hA.some_ (by omega)) (by omega)) ?_
     refine zp (o_faddrR rfl Tryz.underlying94 (by rfl) Tryz.sizeOf39 (by rfl) (by rfl)) ?_
     refine wl_ldVal rfl hA hw (by omega) ?_
     rintro A144 c144 f44 i44
     refine zp (o_len (t := 39) Tryz.underlying39 rfl) ?_
     refine zp (o_gt rfl rfl) ?_
     refine zp (o_pick_f rfl rfl) ?_
     refine wl_nil ?_
     refine rk_if rfl (fun h47 => ?_) (fun h47 => h47.elim (by omega))
     refine zs (za rfl (wl_nil ?_))
     refine ret1 rfl rfl ?_
     exact ⟨false, rfl, ⟨fun h => (by cases h), fun h => by have := (h.2.2.2 _ (List.getElem_mem hil)).2; omega⟩, hw⟩
    ·refine rk_skip ?_
     refine rk_seq (rk_block (zs ?_))
     refine zp (o_faddr (s := 31) (i := 0) (off := 0) Tryz.underlying31 rfl Tryz.sizeOf28 rfl rfl rfl) ?_
     refine wl_r (o_loadbg Tryz.isAgg28 rfl f2 (by rfl)) ?_
     refine zm rfl ?_
     refine zp (o_iaddrA (i) Tryz.underlying28 Tryz.sizeOf94 rfl rfl rfl (hA.some_ (by omega)) (by omega)) ?_
     refine zp (o_faddrR rfl Tryz.underlying94 (by rfl) Tryz.sizeOf39 (by rfl) (by rfl)) ?_
     refine wl_ldKey rfl hA hw (by omega) ?_
     rintro A135 c135 f35 i35
     refine zp (o_len (t := 39) Tryz.underlying39 rfl) ?_
     refine zp (o_gt rfl rfl) ?_
     refine zm rfl ?_
     refine wl_know 38 false rfl (decide_eq_false (by omega)) ?_
     refine zp (o_faddr (s := 31) (i := 0) (off := 0) Tryz.underlying31 rfl Tryz.sizeOf28 rfl rfl rfl) ?_
     refine wl_r (o_loadbg Tryz.isAgg28 rfl f2 (by rfl)) ?_
     refine zm rfl ?_
     refine zp (o_iaddrA (i) Tryz.underlying28 Tryz.sizeOf94 rfl rfl rfl (hA.some_ (by omega)) (by omega)) ?_
     refine zp (o_faddrR rfl Tryz.underlying94 (by rfl) Tryz.sizeOf39 (by rfl) (by rfl)) ?_
     refine wl_ldVal rfl hA hw (by omega) ?_
     rintro A144 c144 f44 i44
     refine zp (o_len (t := 39) Tryz.underlying39 rfl) ?_
     refine zp (o_gt rfl rfl) ?_
     refine zp (o_pick_f rfl rfl) ?_
     refine wl_nil ?_
     refine rk_if rfl (fun h47 => absurd h47 (by omega)) (fun h47 => ?_)
     refine rk_skip ?_
     refine rk_blk ?_
     refine rk_region (zm rfl ?_)
     refine zp (o_add rfl rfl (by omega) (by omega)) ?_
     refine za rfl (wl_nil ?_)
     exact rk_againf (Fr.le_of (by kernel_rfl) (by kernel_rfl) (by repeat' constructor)) ⟨i + 1, (i : Int) + 1, rfl, by omega, by omega, rfl, fun j hj hji => by
      rcases Nat.lt_or_ge j i with h | h
      ·exact hok j hj h
      ·obtain rfl : j = i := by omega
       exact ⟨by omega, by omega⟩, f2, hw⟩ (by omega)
  ·refine rk_exit rfl ?_
   exact rk_tof hj (Fr.le_of (by kernel_rfl) (by kernel_rfl) (by repeat' constructor)) ⟨rfl, fun j h => hok j h (by omega), hw⟩
 clear hw f2
 rintro fr w3 ⟨rfl, hok, hw⟩
 first | refine zf ?_ | refine zg ?_
 refine zs (za rfl (wl_nil ?_))
 refine ret1 rfl rfl ?_
 exact ⟨true, rfl, ⟨fun _ => ⟨by omega, by omega, by omega, fun o ho => by obtain ⟨j, hj, rfl⟩ := List.getElem_of_mem ho; exact hok j hj⟩, fun _ => rfl⟩, hw⟩
end Go.Proofs.YtahkeoegbjopfaaGreat
namespace Go.Proofs.YtahkeoegbjopfaaGreat
set_option maxRecDepth 100000
open Go.RowKit
abbrev Bk := Ky × By
structure BkS (M G : List Value) : Prop where
 m : M.length = 33
 g : G.length = 64
 m1 : ∀ v ∈ M, v.oneCell' = true
 g1 : ∀ v ∈ G, v.oneCell' = true
def bkC (u : Ky) (M : List Value) (N : Option Addr) (nc : Nat) (D : Option Addr) (n c : Nat) (G : List Value) : List Value := B8 u.1 ++ (M ++ ([.slice N 0 nc, .slice D n c] ++ G))
section
variable {u : Ky} {M G : List Value} {N D : Option Addr} {nc n c : Nat}
theorem bkC_length (h : BkS M G) : (bkC u M N nc D n c G).length = 131 := by
 simp only [bkC, List.length_append, B8_length, u.2, h.m, h.g, List.length_cons, List.length_nil]
theorem bkC_one (h : BkS M G) : ∀ v ∈ bkC u M N nc D n c G, v.oneCell' = true := by
 intro v hv
 simp only [bkC, List.mem_append, List.mem_cons, List.not_mem_nil, or_false] at hv
 rcases hv with hv | hv | (rfl | rfl) | hv
 ·exact B8_oneCell _ _ hv
 ·exact h.m1 v hv
 ·rfl
 ·rfl
 ·exact h.g1 v hv
theorem bkC_who : ((bkC u M N nc D n c G).drop (0 + 0)).take 32 = B8 u.1 := by
 show (B8 u.1 ++ _).take 32 = _
 rw [List.take_append_of_le_length (by rw [B8_length, u.2]; omega), List.take_of_length_le (by rw [B8_length, u.2]; omega)]
theorem bkC_lnk (h : BkS M G) : (bkC u M N nc D n c G)[0 + 65]? = some (.slice N 0 nc) := by
 unfold bkC
 rw [List.getElem?_append_right (by rw [B8_length, u.2]; omega), B8_length, u.2, List.getElem?_append_right (by rw [h.m]; omega), h.m]
 rfl
theorem bkC_dat (h : BkS M G) : (bkC u M N nc D n c G)[0 + 66]? = some (.slice D n c) := by
 unfold bkC
 rw [List.getElem?_append_right (by rw [B8_length, u.2]; omega), B8_length, u.2, List.getElem?_append_right (by rw [h.m]; omega), h.m]
 rfl
theorem set_mid {A B : List Value} {v x : Value} {i : Nat} (h : A.length = i) : (A ++ x :: B).set i v = A ++ v :: B := by
 subst h
 rw [List.set_append_right _ _ (Nat.le_refl _), Nat.sub_self]
 rfl
theorem bkC_setL (h : BkS M G) {N' : Option Addr} {nc' : Nat} : (bkC u M N nc D n c G).set (0 + 65) (.slice N' 0 nc') = bkC u M N' nc' D n c G := by
 have e : ∀ x : Value, B8 u.1 ++ (M ++ ([x, .slice D n c] ++ G)) = (B8 u.1 ++ M) ++ x :: ([.slice D n c] ++ G) := fun x => by simp
 unfold bkC
 rw [e, e]
 exact set_mid (by rw [List.length_append, B8_length, u.2, h.m])
theorem bkC_setD (h : BkS M G) {D' : Option Addr} {n' c' : Nat} : (bkC u M N nc D n c G).set (0 + 66) (.slice D' n' c') = bkC u M N nc D' n' c' G := by
 have e : ∀ x : Value, B8 u.1 ++ (M ++ ([.slice N 0 nc, x] ++ G)) = (B8 u.1 ++ M ++ [.slice N 0 nc]) ++ x :: G := fun x => by simp
 unfold bkC
 rw [e, e]
 exact set_mid (by rw [List.length_append, List.length_append, B8_length, u.2, h.m]; rfl)
end
def gBk : GoT Bk where
 sz := 131
 tys := [5]
 R w cs a := ∃ M N nc D c G, cs = bkC a.1 M N nc D a.2.length c G ∧ BkS M G ∧ Rd w D a.2 ∧ a.2.length ≤ c ∧ c ≤ maxLen
 T w cs a := ∃ M N nc D c G, cs = bkC a.1 M N nc D a.2.length c G ∧ BkS M G ∧ RdT w D a.2 ∧ a.2.length ≤ c ∧ c ≤ maxLen
 len h := by obtain ⟨M, N, nc, D, c, G, rfl, h, _⟩ := h; exact bkC_length h
 u h hb := by obtain ⟨M, N, nc, D, c, G, e, h0, h1, h2⟩ := h; exact ⟨M, N, nc, D, c, G, e, h0, h1.below hb, h2⟩
 tr h := by obtain ⟨M, N, nc, D, c, G, e, h0, h1, h2⟩ := h; exact ⟨M, N, nc, D, c, G, e, h0, h1.1, h2⟩
 tu h hb := by obtain ⟨M, N, nc, D, c, G, e, h0, h1, h2⟩ := h; exact ⟨M, N, nc, D, c, G, e, h0, h1.u hb, h2⟩
 ty h hg hne := by obtain ⟨M, N, nc, D, c, G, e, h0, h1, h2⟩ := h; exact ⟨M, N, nc, D, c, G, e, h0, h1.y hg (by simpa using hne), h2⟩
 tm h hg := by obtain ⟨M, N, nc, D, c, G, e, h0, h1, h2⟩ := h; exact ⟨M, N, nc, D, c, G, e, h0, h1.m hg, h2⟩
def RBk (w : World) (A : Option Addr) (L : List Bk) : Prop := RSl gBk w A L
def OwnB (w : World) (lo hi : Nat) (A : Option Addr) (c : Nat) (L : List Bk) : Prop := OwnS gBk 49 w lo hi A c L
section
variable {w w' : World} {lo hi lo' hi' cp b : Nat} {A : Option Addr} {L : List Bk} {e' : TypeId} {row : Option Nat}
theorem RBk.some_ (h : RBk w A L) (hl : 0 < L.length) : A = some (A.getD ⟨0, 0, none⟩) := RSl.some_ h (show 0 < 131 by decide) hl
theorem RBk.elem (h : RBk w A L) {i : Nat} (hi : i < L.length) : ∃ M N nc D c G, CellsAt w A (i * 131) (bkC L[i].1 M N nc D L[i].2.length c G) ∧ BkS M G ∧ Rd w D L[i].2 ∧ L[i].2.length ≤ c ∧ c ≤ maxLen := by
 obtain ⟨cs, h1, M, N, nc, D, c, G, rfl, h2⟩ := RSl.elem h (show 0 < 131 by decide) hi
 exact ⟨M, N, nc, D, c, G, h1, h2⟩
theorem OwnB.u (h : OwnB w lo hi A cp L) (hb : Below w.heap.size w w') : OwnB w' lo hi A cp L := OwnS.u h hb
theorem OwnB.y (h : OwnB w lo hi A cp L) (hg : Grew w w' e' row) (hne : e' ∉ 49 :: gBk.tys) : OwnB w' lo hi A cp L := OwnS.y h hg hne
theorem OwnB.cap (h : OwnB w lo hi A cp L) : L.length ≤ cp := OwnS.cap h
theorem OwnB.to_RBk (h : OwnB w lo hi A cp L) : RBk w A L := OwnS.to_RSl h
end
def bkM : List Value := .int .u64 0 :: B8 (List.replicate 32 0)
def bkG : List Value := B8 (List.replicate 64 0)
theorem bkS0 : BkS bkM bkG := ⟨rfl, rfl, by decide, by decide⟩
theorem Tryz.rowBk : RowT Tryz.prog 25 49 (.agg (bkC z32 bkM none 0 none 0 0 bkG).toArray) 131 184 := ⟨Tryz.underlying25, by kernel_rfl, rfl, by omega⟩
section
variable {fn : Func} {F : Ending → World → Prop} {N : Nat} {ks : List K} {ops : Array Oper} {tg : Tags} {l : List Oper} {fr : Fr} {w w0 : World} {ty t' : TypeId} {pos : String} {aft : Array Edge} {gd : Option (Nat × Bool)} {d0 n j o q c nc lo hi g : Nat} {x y : Operand} {A B D L' : Option Addr} {L P : List Bk} {u u' : Ky} {M G M' G' : List Value}
theorem wl_ldBk (hx : fr.ev x = some (.pointer (some (adr A (j * 131))))) (hr : RBk w0 A L) (hb : Below w0.heap.size w0 w) (hj : j < L.length)
  (hk : ∀ M N' nc D c G, BkS M G → Rd w0 D L[j].2 → L[j].2.length ≤ c → c ≤ maxLen → WL Tryz.prog fn F N ks ops tg.tail l ((d0, .agg (bkC L[j].1 M N' nc D L[j].2.length c G).toArray) :: fr) w)
  (ht : tg.reads = true := by rfl) (hg : onG ops fr gd = true := by rfl) (hd : Nat.blt d0 N = true := by rfl) : WL Tryz.prog fn F N ks ops tg (⟨some d0, .load 49 x, ty, pos, aft, gd⟩ :: l) fr w := by
 obtain ⟨M, N', nc, D, c, G, h1, h0, h2, h3, h4⟩ := hr.elem hj
 refine wl_r (o_loadn (cs := bkC L[j].1 M N' nc D L[j].2.length c G) Tryz.isAgg49 (by rw [bkC_length h0]; exact Tryz.sizeOf49) hx (fun i u hu => ?_)) (hk M N' nc D c G h0 h2 h3 h4) ht hg hd
 rw [adr_add]
 exact h1.u hb i u hu
theorem wl_allocBk (hk : ∀ g w', Blk w' g 49 (bkC z32 bkM none 0 none 0 0 bkG) → Below w.heap.size w w' → w.heap.size ≤ g → g < w'.heap.size → WL Tryz.prog fn F N ks ops tg.tail l ((d0, .pointer (some ⟨g, 0, none⟩)) :: fr) w')
  (ht : tg.loud = true := by rfl) (hg : onG ops fr gd = true := by rfl) (hd : Nat.blt d0 N = true := by rfl) : WL Tryz.prog fn F N ks ops tg (⟨some d0, .alloc 49, ty, pos, aft, gd⟩ :: l) fr w :=
 wl_allocg _ Tryz.zeroValue49 rfl hk ht hg hd
theorem wl_stBkB {D' N1 N2 : Option Addr} {n' c' nc' : Nat} (hx : fr.ev x = some (.pointer (some ⟨g, 0, none⟩))) (hB : Blk w g t' (bkC u' M' N2 nc' D' n' c' G')) (hS' : BkS M' G') (hy : fr.ev y = some (.agg (bkC u M N1 nc D n c G).toArray)) (hS : BkS M G)
  (hk : ∀ w', Blk w' g t' (bkC u M N1 nc D n c G) → Grew w w' t' (some g) → w'.heap.size = w.heap.size → WL Tryz.prog fn F N ks ops tg.tail l fr w') (ht : tg.loud = true := by rfl) (hg : onG ops fr gd = true := by rfl) (hq : tg.calm = false ∨ tg.rw.may (some g) := by exact .inl rfl) :
  WL Tryz.prog fn F N ks ops tg (⟨none, .store 49 x y, ty, pos, aft, gd⟩ :: l) fr w :=
 wl_storega Tryz.sizeOf49 hx hy (bkC_length hS) (bkC_one hS) hB (bkC_length hS') hk ht hg hq
theorem o_ldBkA {N1 : Option Addr} (hx : fr.ev x = some (.pointer (some ⟨g, 0, none⟩))) (hB : Blk w g t' (bkC u M N1 nc D n c G)) (hS : BkS M G) : OpV Tryz.prog N fr w (.load 49 x) ty (.agg (bkC u M N1 nc D n c G).toArray) w :=
 o_loadag Tryz.isAgg49 Tryz.sizeOf49 hx hB (bkC_length hS)
theorem o_ldBkW {N1 : Option Addr} (hx : fr.ev x = some (.pointer (some ⟨g, 0 + 0, none⟩))) (hB : Blk w g t' (bkC u M N1 nc D n c G)) : OpV Tryz.prog N fr w (.load 42 x) ty (.agg (B8 u.1).toArray) w :=
 o_loadCut Tryz.isAgg42 Tryz.sizeOf42 hx hB bkC_who (by rw [B8_length, u.2])
theorem o_ldBkDt {N1 : Option Addr} (hx : fr.ev x = some (.pointer (some ⟨g, 0 + 66, none⟩))) (hB : Blk w g t' (bkC u M N1 nc D n c G)) (hS : BkS M G) : OpV Tryz.prog N fr w (.load 39 x) ty (.slice D n c) w :=
 o_loadbg Tryz.isAgg39 hx hB (bkC_dat hS)
theorem o_ldBkL {N1 : Option Addr} (hx : fr.ev x = some (.pointer (some ⟨g, 0 + 65, none⟩))) (hB : Blk w g t' (bkC u M N1 nc D n c G)) (hS : BkS M G) : OpV Tryz.prog N fr w (.load 45 x) ty (.slice N1 0 nc) w :=
 o_loadbg Tryz.isAgg45 hx hB (bkC_lnk hS)
theorem wl_stBkL {N1 N2 : Option Addr} {nc' : Nat} (hx : fr.ev x = some (.pointer (some ⟨g, 0 + 65, none⟩))) (hB : Blk w g t' (bkC u M N1 nc' D n c G)) (hy : fr.ev y = some (.slice N2 0 nc)) (hS : BkS M G)
  (hk : ∀ w', Blk w' g t' (bkC u M N2 nc D n c G) → Grew w w' t' (some g) → w'.heap.size = w.heap.size → WL Tryz.prog fn F N ks ops tg.tail l fr w') (ht : tg.loud = true := by rfl) (hg : onG ops fr gd = true := by rfl) (hq : tg.calm = false ∨ tg.rw.may (some g) := by exact .inl rfl) :
  WL Tryz.prog fn F N ks ops tg (⟨none, .store 45 x y, ty, pos, aft, gd⟩ :: l) fr w :=
 wl_storeg1 Tryz.sizeOf45 hx hy rfl hB (by rw [bkC_length hS]; omega) (fun w' h1 h2 h3 => hk w' (by rwa [bkC_setL hS] at h1) h2 h3) ht hg hq
theorem wl_stBkD {N1 D' : Option Addr} {n' c' : Nat} (hx : fr.ev x = some (.pointer (some ⟨g, 0 + 66, none⟩))) (hB : Blk w g t' (bkC u M N1 nc D' n' c' G)) (hy : fr.ev y = some (.slice D n c)) (hS : BkS M G)
  (hk : ∀ w', Blk w' g t' (bkC u M N1 nc D n c G) → Grew w w' t' (some g) → w'.heap.size = w.heap.size → WL Tryz.prog fn F N ks ops tg.tail l fr w') (ht : tg.loud = true := by rfl) (hg : onG ops fr gd = true := by rfl) (hq : tg.calm = false ∨ tg.rw.may (some g) := by exact .inl rfl) :
  WL Tryz.prog fn F N ks ops tg (⟨none, .store 39 x y, ty, pos, aft, gd⟩ :: l) fr w :=
 wl_storeg1 Tryz.sizeOf39 hx hy rfl hB (by rw [bkC_length hS]; omega) (fun w' h1 h2 h3 => hk w' (by rwa [bkC_setD hS] at h1) h2 h3) ht hg hq
theorem wl_litBk1 {ps : Array (Nat × Operand)} {xs : List Operand} {p : By} {N1 : Option Addr} (hxs : ps.toList.map Prod.snd = xs) (hx : fr.evs xs = some [.agg (bkC u M N1 nc D n c G).toArray]) (hS : BkS M G) (h1 : RdT w D p) (hn : n = p.length) (h2 : p.length ≤ c) (h3 : c ≤ maxLen) (hps : ps = ((List.range' 0 1).zip xs).toArray)
  (hk : ∀ A w', OwnB w' w.heap.size w'.heap.size A 1 [(u, p)] → Below w.heap.size w w' → WL Tryz.prog fn F N ks ops tg.tail l ((d0, .slice A 1 1) :: fr) w')
  (ht : tg.loud = true := by rfl) (hg : onG ops fr gd = true := by rfl) (hd : Nat.blt d0 N = true := by rfl) : WL Tryz.prog fn F N ks ops tg (⟨some d0, .buildSlice 25 1 ps, ty, pos, aft, gd⟩ :: l) fr w := by
 subst hn
 refine wl_litS (X := gBk) (L := [(u, p)]) Tryz.rowBk Tryz.sizeOf49 Tryz.zeroValue49 hxs hps hx rfl rfl (fun i h => ?_) rfl hk ht hg hd
 obtain rfl : i = 0 := by simp at h; omega
 exact ⟨_, rfl, by show (bkC u M N1 nc D p.length c G).toArray.size = 131; rw [List.size_toArray, bkC_length hS], M, N1, nc, D, c, G, rfl, hS, h1, h2, h3⟩
end
end Go.Proofs.YtahkeoegbjopfaaGreat
namespace Go.Proofs.YtahkeoegbjopfaaGreat
set_option maxRecDepth 100000
open Go.RowKit
def OwnD0 (w : World) (lo hi : Nat) (A : Option Addr) : Prop := RowH w lo hi 44 32 A 0 0 []
theorem OwnD0.u {w w' : World} {lo hi : Nat} {A : Option Addr} (h : OwnD0 w lo hi A) (hb : Below w.heap.size w w') : OwnD0 w' lo hi A := RowH.u h hb
theorem Tryz.rowDg : RowT Tryz.prog 45 44 (.agg (B8 z32.1).toArray) 32 32 := ⟨Tryz.underlying45, by kernel_rfl, rfl, by omega⟩
section
variable {fn : Func} {F : Ending → World → Prop} {N : Nat} {ks : List K} {ops : Array Oper} {tg : Tags} {l : List Oper} {fr : Fr} {w w0 : World} {ty t' : TypeId} {pos : String} {aft : Array Edge} {gd : Option (Nat × Bool)} {d n j q c lo hi : Nat} {x y : Operand} {A B : Option Addr}
theorem wl_litDg0 {ps : Array (Nat × Operand)} {xs : List Operand} (hxs : ps.toList.map Prod.snd = xs) (hx : fr.evs xs = some []) (hps : ps = ((List.range' 0 0).zip xs).toArray)
  (hk : ∀ A w', OwnD0 w' w.heap.size w'.heap.size A → Below w.heap.size w w' → WL Tryz.prog fn F N ks ops tg.tail l ((d, .slice A 0 0) :: fr) w')
  (ht : tg.loud = true := by rfl) (hg : onG ops fr gd = true := by rfl) (hd : Nat.blt d N = true := by rfl) : WL Tryz.prog fn F N ks ops tg (⟨some d, .buildSlice 45 0 ps, ty, pos, aft, gd⟩ :: l) fr w :=
 wl_litR Tryz.rowDg Tryz.sizeOf44 Tryz.zeroValue44 hxs hps hx rfl (fun v h => by cases h) rfl hk ht hg hd
theorem wl_appDg0 (hx : fr.ev x = some (.slice A 0 0)) (hown : OwnD0 w lo hi A) (hy : fr.ev y = some (.slice B 0 q)) (hB : lo ≤ w.heap.size)
  (h : ∀ A' c' w', Below w.heap.size w w' → WL Tryz.prog fn F N ks ops tg.tail l ((d, .slice A' 0 c') :: fr) w')
  (ht : tg.loud = true := by rfl) (hg : onG ops fr gd = true := by rfl) (hd : Nat.blt d N = true := by rfl) :
  WL Tryz.prog fn F N ks ops tg (⟨some d, .call { callee := .builtin .append, args := #[x, y], argTypes := #[45, 45] }, ty, pos, aft, gd⟩ :: l) fr w :=
 wl_appR0 Tryz.rowDg hx hown hy (Reads.none_ _ _ _) (fun u hu => by cases hu) (by omega) (by omega) hB (fun A' c' w' _ k2 => h A' c' w' k2) ht hg hd
end
def LtB (L : List Bk) : Prop := ∀ b ∈ L, b.2.length ≤ 4000000
end Go.Proofs.YtahkeoegbjopfaaGreat
namespace Go.Proofs.YtahkeoegbjopfaaGreat
set_option maxRecDepth 100000

def over (t n : Nat) : Nat := if n < t then 0 else 1
theorem room_hi (n : Nat) : room n = 9 ∨ n / 2 ^ (7 * room n) = 0 := by
 unfold room
 repeat' split
 all_goals first | (left; rfl) | (right; simp; omega)
theorem room_low (n : Nat) : room n = 1 ∨ n / 2 ^ (7 * (room n - 1)) ≠ 0 := by
 unfold room
 repeat' split
 all_goals first | (left; rfl) | (right; simp; omega)
end Go.Proofs.YtahkeoegbjopfaaGreat
namespace Go.Proofs.YtahkeoegbjopfaaGreat
set_option maxRecDepth 100000

theorem beVal_split : ∀ (l : List UInt8) (a : Nat), beVal a l / 256 ^ l.length = a
 | [], a => by simp [beVal]
 | c :: l, a => by
  have e : beVal a (c :: l) = beVal (a * 256 + c.toNat) l := rfl
  have h := beVal_split l (a * 256 + c.toNat)
  have hc := c.toNat_lt
  rw [e, List.length_cons, Nat.pow_succ, ← Nat.div_div_eq_div_mul, h]
  omega
theorem beB_beVal : ∀ (l : List UInt8) (a : Nat), beB l.length (beVal a l) = l
 | [], _ => rfl
 | c :: l, a => by
  have e : beVal a (c :: l) = beVal (a * 256 + c.toNat) l := rfl
  have hc := c.toNat_lt
  rw [e, List.length_cons, beB, beVal_split, beB_beVal l]
  congr 1
  apply UInt8.toNat_inj.1
  rw [UInt8.toNat_ofNat']
  omega
theorem lead_back (c : UInt8) : 256 - 2 ^ (9 - lead c) + c.toNat % 2 ^ (8 - lead c) = c.toNat := by
 have hc := c.toNat_lt
 unfold lead
 generalize c.toNat = x at *
 repeat' split
 all_goals simp only [Nat.reduceSub, Nat.reducePow]; omega

theorem rNumber_back {b r : List UInt8} {u : Nat} (h : rNumber (b, 0) = (u, (r, 0))) : b = enc u ++ r ∧ u < 18446744073709551616 := by
 cases b with
 | nil => rw [rNumber_nil] at h; simp at h
 | cons c t =>
  by_cases h1 : t.length + 1 < lead c
  ·rw [rNumber_more h1] at h; simp at h
  ·by_cases h2 : room (beVal (c.toNat % 2 ^ (8 - lead c)) (t.take (lead c - 1))) = lead c
   ·rw [rNumber_ok h1 h2] at h
    simp only [Prod.mk.injEq, and_true] at h
    obtain ⟨hu, hr⟩ := h
    have hk := lead_bd c
    have hlen : (t.take (lead c - 1)).length = lead c - 1 := by rw [List.length_take]; omega
    have hu64 := beVal_u64 c (t.take (lead c - 1)) (by omega)
    rw [hu] at h2 hu64
    refine ⟨?_, hu64⟩
    have hdiv : u / 256 ^ (lead c - 1) = c.toNat % 2 ^ (8 - lead c) := by
     have := beVal_split (t.take (lead c - 1)) (c.toNat % 2 ^ (8 - lead c))
     rw [hlen, hu] at this
     exact this
    have hrest : beB (lead c - 1) u = t.take (lead c - 1) := by
     have := beB_beVal (t.take (lead c - 1)) (c.toNat % 2 ^ (8 - lead c))
     rw [hlen, hu] at this
     exact this
    have hf : first (lead c) u = c := by
     apply UInt8.toNat_inj.1
     unfold first
     rw [UInt8.toNat_ofNat', hdiv, lead_back]
     have := c.toNat_lt
     omega
    unfold enc
    rw [h2, hf, hrest, ← hr, List.cons_append, List.take_append_drop]
   ·rw [rNumber_bad h1 h2] at h; simp at h

theorem rBlock_back {b q r : List UInt8} (h : rBlock (b, 0) = (q, (r, 0))) : b = enc q.length ++ q ++ r := by
 unfold rBlock at h
 generalize hn : rNumber (b, 0) = x at h
 obtain ⟨n, s, e⟩ := x
 simp only at h
 by_cases he : e = 0
 ·subst he
  rw [if_neg (by simp)] at h
  obtain ⟨hb, _⟩ := rNumber_back hn
  by_cases hl : s.length < n
  ·rw [if_pos hl] at h; simp at h
  ·rw [if_neg hl] at h
   simp only [Prod.mk.injEq, and_true] at h
   obtain ⟨hq, hr⟩ := h
   have hqn : q.length = n := by rw [← hq, List.length_take]; omega
   rw [hb, hqn, ← hq, ← hr, List.append_assoc, List.take_append_drop]
 ·rw [if_pos he] at h
  simp only [Prod.mk.injEq] at h
  exact absurd h.2.2 he
end Go.Proofs.YtahkeoegbjopfaaGreat
namespace Go.Proofs.YtahkeoegbjopfaaGreat
set_option maxRecDepth 100000
theorem rWord_cons (c : UInt8) (t : List UInt8) : rWord 1 (c :: t, 0) = (c.toNat, (t, 0)) := by
 unfold rWord rTake
 have hc : clampN 1 = 1 := by decide
 rw [hc]
 simp [leVal]
theorem rWord_nil : rWord 1 ([], 0) = (0, ([], 5)) := by decide
theorem rBlock_err {l : List UInt8} {e : Nat} (h : e ≠ 0) : (rBlock (l, e)).2.2 ≠ 0 := by
 unfold rBlock
 rw [rNumber_err h]
 simp [h]
theorem goodS_1 {n m : Nat} {u : Ky} (h : goodS 1 n m u = true) : 1 ≤ n ∧ n ≤ 16 ∧ m ≤ 32 ∧ u = z32 := by
 simp only [goodS, if_pos, Bool.and_eq_true, decide_eq_true_eq] at h
 exact ⟨h.1.1.1, h.1.1.2, h.1.2, h.2⟩
theorem readS_back {k : Int} {p q : By} {u : Ky} {l t : List UInt8} (h : readS k (l, 0) = (p, q, u, (t, 0))) : l = tailS k p q u ++ t := by
 by_cases h1 : k = 1
 ·subst h1
  simp only [readS, if_pos, Prod.mk.injEq] at h
  obtain ⟨e1, e2, e3, e4⟩ := h
  obtain ⟨⟨p', l1, e⟩, hb⟩ : ∃ s, rBlock (l, 0) = s := ⟨_, rfl⟩
  rw [hb] at e1 e2 e4
  dsimp only at e1 e2 e4
  by_cases he : e = 0
  ·subst he
   subst e1
   have k1 := rBlock_back hb
   obtain ⟨⟨q', l2, e'⟩, hb2⟩ : ∃ s, rBlock (l1, 0) = s := ⟨_, rfl⟩
   rw [hb2] at e2 e4
   dsimp only at e2 e4
   subst e2
   injection e4 with e4 e5
   subst e4; subst e5
   have k2 := rBlock_back hb2
   show l = blkB p' ++ blkB q' ++ l2
   unfold blkB
   rw [k1, k2]; simp
  ·have := rBlock_err (l := l1) he
   rw [e4] at this
   exact absurd rfl this
 ·by_cases h2 : k = 2
  ·subst h2
   have e0 : readS 2 (l, 0) = ((rBlock (l, 0)).1, [], z32, (rBlock (l, 0)).2) := rfl
   rw [e0] at h
   simp only [Prod.mk.injEq] at h
   obtain ⟨e1, rfl, rfl, e4⟩ := h
   have hb : rBlock (l, 0) = (p, (t, 0)) := by rw [← e1, ← e4]
   exact rBlock_back hb
  ·simp only [readS, if_neg h1, if_neg h2, Prod.mk.injEq] at h
   obtain ⟨rfl, rfl, rfl, e4⟩ := h
   have e : tailS k [] [] (digK (l, 0)) = (rDigest (l, 0)).1 := by simp [tailS, h1, h2]; rfl
   rw [e]
   unfold rDigest rTake at e4 ⊢
   by_cases h3 : l.length < 32
   ·simp [h3] at e4
   ·simp only [ne_eq, not_true_eq_false, if_false, h3] at e4 ⊢
    injection e4 with e4
    rw [← e4, List.take_append_drop]
theorem readL_back : ∀ (n : Nat) (l : List UInt8) (L : List Opn) (t : List UInt8), readL n (l, 0) = some (L, (t, 0)) → L.length = n ∧ (∀ o ∈ L, okO o = true) ∧ l = L.flatMap opB ++ t
 | 0, l, L, t, h => by
  rw [readL] at h
  injection h with h
  injection h with h1 h2
  injection h2 with h2
  subst h1; subst h2
  exact ⟨rfl, fun o ho => (by cases ho), rfl⟩
 | n + 1, l, L, t, h => by
  rw [readL] at h
  rcases l with _ | ⟨c, l⟩
  ·rw [rWord_nil] at h
   simp at h
  ·rw [rWord_cons] at h
   dsimp only at h
   by_cases hk : 1 ≤ c.toNat ∧ c.toNat ≤ 6
   ·rw [if_pos hk] at h
    obtain ⟨⟨p, q, u, l2, e2⟩, hs⟩ : ∃ s, readS (c.toNat : Nat) (l, 0) = s := ⟨_, rfl⟩
    rw [hs] at h
    dsimp only at h
    by_cases hg : e2 = 0 ∧ goodS (c.toNat : Nat) p.length q.length u = true
    ·rw [if_pos hg] at h
     obtain ⟨rfl, hg⟩ := hg
     obtain ⟨⟨L2, s2⟩, hL2⟩ : ∃ r, readL n (l2, 0) = some r := by
      cases hr : readL n (l2, 0) with
      | none => rw [hr] at h; cases h
      | some r => exact ⟨r, rfl⟩
     rw [hL2] at h
     injection h with h
     injection h with h1 h2
     subst h1; subst h2
     obtain ⟨i1, i2, i3⟩ := readL_back n l2 L2 t hL2
     have hb := readS_back hs
     refine ⟨by rw [List.length_cons, i1], fun o ho => ?_, ?_⟩
     ·rcases List.mem_cons.1 ho with rfl | ho
      ·show okOp (c.toNat : Nat) p.length q.length u = true
       unfold okOp
       rw [hg, decide_eq_true (by omega), decide_eq_true (by omega)]
       rfl
      ·exact i2 o ho
     ·rw [List.flatMap_cons, opB]
      dsimp only
      rw [Int.toNat_natCast, UInt8.ofNat_toNat, hb, i3]
      simp
    ·rw [if_neg hg] at h; cases h
   ·rw [if_neg hk] at h; cases h
theorem rEnd_zero {s : RS} (h : rEnd s = 0) : s = ([], 0) := by
 obtain ⟨l, e⟩ := s
 unfold rEnd at h
 by_cases h1 : e = 0
 ·subst h1
  by_cases h2 : l = []
  ·subst h2; rfl
  ·simp [h2] at h
 ·simp [h1] at h
theorem readO_back {b : By} {L : List Opn} (h : readO b = (L, 0)) : bytesO L = (b, 0) := by
 unfold readO at h
 by_cases h8 : 8 < (rWord 1 (b, 0)).1
 ·rw [if_pos h8] at h; cases h
 rw [if_neg h8] at h
 rcases b with _ | ⟨c, b⟩
 ·rw [rWord_nil] at h
  simp [readL, rEnd] at h
 ·rw [rWord_cons] at h h8
  dsimp only at h h8
  cases hr : readL c.toNat (b, 0) with
  | none => rw [hr] at h; cases h
  | some r =>
   obtain ⟨L2, s⟩ := r
   rw [hr] at h
   dsimp only at h
   by_cases hE : rEnd s = 0
   ·rw [if_pos hE] at h
    injection h with h
    subst h
    rw [rEnd_zero hE] at hr
    obtain ⟨i1, i2, i3⟩ := readL_back _ _ _ _ hr
    unfold bytesO
    rw [if_neg (by omega), if_pos (List.all_eq_true.2 i2), i1, i3]
    simp
   ·rw [if_neg hE] at h; cases h
theorem bytesO_ok {L : List Opn} {x : By} (h : bytesO L = (x, 0)) : L.length ≤ 8 ∧ (∀ o ∈ L, okO o = true) ∧ x = UInt8.ofNat L.length :: L.flatMap opB := by
 unfold bytesO at h
 by_cases h8 : 8 < L.length
 ·rw [if_pos h8] at h; cases h
 rw [if_neg h8] at h
 by_cases hk : L.all okO = true
 ·rw [if_pos hk] at h
  injection h with h
  exact ⟨by omega, List.all_eq_true.1 hk, h.symm⟩
 ·rw [if_neg hk] at h; cases h
end Go.Proofs.YtahkeoegbjopfaaGreat
