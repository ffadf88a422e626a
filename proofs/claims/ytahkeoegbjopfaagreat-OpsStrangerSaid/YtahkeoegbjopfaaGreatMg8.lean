/-
  Walks of package ops: whether a state is valid; where a key is among rising ones.
-/
import Derived.Test.YtahkeoegbjopfaaGreatMg7
import Derived.Lib.Overlaps
namespace Go.Proofs.YtahkeoegbjopfaaGreat
set_option maxRecDepth 100000
open Go.RowKit
abbrev Stt := List (By × By) × List Ky × List Ky
def OkI (I : List (By × By)) : Prop := ∀ i (h : i < I.length), ((1 ≤ I[i].1.length ∧ I[i].1.length ≤ 16) ∧ I[i].2.length ≤ 32) ∧ (0 < i → cmpL I[i - 1].1 I[i].1 < 0)
instance (I : List (By × By)) : Decidable (OkI I) := by unfold OkI; infer_instance
def OkSt (I : List (By × By)) (X Y : List Ky) : Prop := (I.length ≤ 1024 ∧ X.length ≤ 16) ∧ (1 ≤ Y.length ∧ Y.length ≤ 16) ∧ OkI I ∧ IncK X ∧ IncK Y
instance (I : List (By × By)) (X Y : List Ky) : Decidable (OkSt I X Y) := by unfold OkSt; infer_instance
def LtI (I : List (By × By)) : Prop := ∀ x ∈ I, x.1.length ≤ 4000000 ∧ x.2.length ≤ 4000000
set_option maxRecDepth 20000 in
theorem K_checkState {A B C : Option Addr} {I : List (By × By)} {X Y : List Ky} {n c m d q e : Nat} (w : World) (hA : RI w A I) (hB : RKs w B X) (hC : RKs w C Y) (hn : n = I.length) (hm : m = X.length) (hq : q = Y.length) (hl : I.length ≤ 4000000) (hl2 : X.length ≤ 4000000) (hl3 : Y.length ≤ 4000000) (hL : LtI I) :
  CallsR Tryz.prog 17 [.agg #[.slice A n c, .slice B m d, .slice C q e]] w fun v w' => v = .int .i64 (if OkSt I X Y then 0 else 2) ∧ Below w.heap.size w w' := by
 subst hn; subst hm; subst hq
 refine callsR Tryz.func17 rfl rfl (by kernel_rfl) rfl ?_
 have hw := Below.refl w.heap.size w
 by_cases h1 : 1024 < I.length
 ·rw [if_neg (fun h => by have := h.1.1; omega)]
  refine zs ?_
  refine wl_boxg [_, _, _] rfl (by rfl) ?_
  rintro g1 w1 f1 b1 i1 i1_1
  have s1 := b1.size
  replace hw := hw.trans (b1.mono hw.size)
  refine za rfl (wl_nil (rk_seq (zs ?_)))
  refine zp (o_faddr (s := 31) (i := 0) (off := 0) Tryz.underlying31 rfl Tryz.sizeOf28 rfl rfl rfl) ?_
  refine wl_r (o_loadbg Tryz.isAgg28 rfl f1 (by rfl)) ?_
  refine zp (o_len (t := 28) Tryz.underlying28 rfl) ?_
  refine zp (o_gt rfl rfl) ?_
  refine zm rfl ?_
  refine wl_know 9 true rfl (decide_eq_true (by omega)) ?_
  refine wl_off (wl_off (wl_off (wl_off ?_)))
  refine zp (o_pick_t rfl rfl) ?_
  refine wl_nil ?_
  refine rk_true rfl ?_
  refine zs (za rfl (wl_nil ?_))
  refine ret1 rfl rfl ?_
  exact ⟨rfl, hw⟩
 by_cases h2 : 16 < X.length
 ·rw [if_neg (fun h => by have := h.1.2; omega)]
  refine zs ?_
  refine wl_boxg [_, _, _] rfl (by rfl) ?_
  rintro g1 w1 f1 b1 i1 i1_1
  have s1 := b1.size
  replace hw := hw.trans (b1.mono hw.size)
  refine za rfl (wl_nil (rk_seq (zs ?_)))
  refine zp (o_faddr (s := 31) (i := 0) (off := 0) Tryz.underlying31 rfl Tryz.sizeOf28 rfl rfl rfl) ?_
  refine wl_r (o_loadbg Tryz.isAgg28 rfl f1 (by rfl)) ?_
  refine zp (o_len (t := 28) Tryz.underlying28 rfl) ?_
  refine zp (o_gt rfl rfl) ?_
  refine zm rfl ?_
  refine wl_know 9 false rfl (decide_eq_false (by omega)) ?_
  refine zp (o_faddr (s := 31) (i := 1) (off := 1) Tryz.underlying31 rfl Tryz.sizeOf29 rfl rfl rfl) ?_
  refine wl_r (o_loadbg Tryz.isAgg29 rfl f1 (by rfl)) ?_
  refine zp (o_len (t := 29) Tryz.underlying29 rfl) ?_
  refine zp (o_gt rfl rfl) ?_
  refine zp (o_pick_f rfl rfl) ?_
  refine wl_nil ?_
  refine rk_if rfl (fun h14 => ?_) (fun h14 => h14.elim (by omega))
  refine zs (za rfl (wl_nil ?_))
  refine ret1 rfl rfl ?_
  exact ⟨rfl, hw⟩
 by_cases h3 : Y.length < 1
 ·rw [if_neg (fun h => by have := h.2.1.1; omega)]
  refine zs ?_
  refine wl_boxg [_, _, _] rfl (by rfl) ?_
  rintro g1 w1 f1 b1 i1 i1_1
  have s1 := b1.size
  replace hw := hw.trans (b1.mono hw.size)
  refine za rfl (wl_nil (rk_seq (zs ?_)))
  refine zp (o_faddr (s := 31) (i := 0) (off := 0) Tryz.underlying31 rfl Tryz.sizeOf28 rfl rfl rfl) ?_
  refine wl_r (o_loadbg Tryz.isAgg28 rfl f1 (by rfl)) ?_
  refine zp (o_len (t := 28) Tryz.underlying28 rfl) ?_
  refine zp (o_gt rfl rfl) ?_
  refine zm rfl ?_
  refine wl_know 9 false rfl (decide_eq_false (by omega)) ?_
  refine zp (o_faddr (s := 31) (i := 1) (off := 1) Tryz.underlying31 rfl Tryz.sizeOf29 rfl rfl rfl) ?_
  refine wl_r (o_loadbg Tryz.isAgg29 rfl f1 (by rfl)) ?_
  refine zp (o_len (t := 29) Tryz.underlying29 rfl) ?_
  refine zp (o_gt rfl rfl) ?_
  refine zp (o_pick_f rfl rfl) ?_
  refine wl_nil ?_
  refine rk_if rfl (fun h14 => absurd h14 (by omega)) (fun h14 => ?_)
  refine rk_skip (rk_seq (zs ?_))
  refine zp (o_faddr (s := 31) (i := 2) (off := 2) Tryz.underlying31 rfl Tryz.sizeOf29 rfl rfl rfl) ?_
  refine wl_r (o_loadbg Tryz.isAgg29 rfl f1 (by rfl)) ?_
  refine zp (o_len (t := 29) Tryz.underlying29 rfl) ?_
  refine zp (o_lt rfl rfl) ?_
  refine zm rfl ?_
  refine wl_know 19 true rfl (decide_eq_true (by omega)) ?_
  refine wl_off (wl_off (wl_off (wl_off ?_)))
  refine zp (o_pick_t rfl rfl) ?_
  refine wl_nil ?_
  refine rk_true rfl ?_
  refine zs (za rfl (wl_nil ?_))
  refine ret1 rfl rfl ?_
  exact ⟨rfl, hw⟩
 by_cases h4 : 16 < Y.length
 ·rw [if_neg (fun h => by have := h.2.1.2; omega)]
  refine zs ?_
  refine wl_boxg [_, _, _] rfl (by rfl) ?_
  rintro g1 w1 f1 b1 i1 i1_1
  have s1 := b1.size
  replace hw := hw.trans (b1.mono hw.size)
  refine za rfl (wl_nil (rk_seq (zs ?_)))
  refine zp (o_faddr (s := 31) (i := 0) (off := 0) Tryz.underlying31 rfl Tryz.sizeOf28 rfl rfl rfl) ?_
  refine wl_r (o_loadbg Tryz.isAgg28 rfl f1 (by rfl)) ?_
  refine zp (o_len (t := 28) Tryz.underlying28 rfl) ?_
  refine zp (o_gt rfl rfl) ?_
  refine zm rfl ?_
  refine wl_know 9 false rfl (decide_eq_false (by omega)) ?_
  refine zp (o_faddr (s := 31) (i := 1) (off := 1) Tryz.underlying31 rfl Tryz.sizeOf29 rfl rfl rfl) ?_
  refine wl_r (o_loadbg Tryz.isAgg29 rfl f1 (by rfl)) ?_
  refine zp (o_len (t := 29) Tryz.underlying29 rfl) ?_
  refine zp (o_gt rfl rfl) ?_
  refine zp (o_pick_f rfl rfl) ?_
  refine wl_nil ?_
  refine rk_if rfl (fun h14 => absurd h14 (by omega)) (fun h14 => ?_)
  refine rk_skip (rk_seq (zs ?_))
  refine zp (o_faddr (s := 31) (i := 2) (off := 2) Tryz.underlying31 rfl Tryz.sizeOf29 rfl rfl rfl) ?_
  refine wl_r (o_loadbg Tryz.isAgg29 rfl f1 (by rfl)) ?_
  refine zp (o_len (t := 29) Tryz.underlying29 rfl) ?_
  refine zp (o_lt rfl rfl) ?_
  refine zm rfl ?_
  refine wl_know 19 false rfl (decide_eq_false (by omega)) ?_
  refine zp (o_faddr (s := 31) (i := 2) (off := 2) Tryz.underlying31 rfl Tryz.sizeOf29 rfl rfl rfl) ?_
  refine wl_r (o_loadbg Tryz.isAgg29 rfl f1 (by rfl)) ?_
  refine zp (o_len (t := 29) Tryz.underlying29 rfl) ?_
  refine zp (o_gt rfl rfl) ?_
  refine zp (o_pick_f rfl rfl) ?_
  refine wl_nil ?_
  refine rk_if rfl (fun h24 => ?_) (fun h24 => h24.elim (by omega))
  refine zs (za rfl (wl_nil ?_))
  refine ret1 rfl rfl ?_
  exact ⟨rfl, hw⟩
 refine zs ?_
 refine wl_boxg [_, _, _] rfl (by rfl) ?_
 rintro g1 w1 f1 b1 i1 i1_1
 have s1 := b1.size
 replace hw := hw.trans (b1.mono hw.size)
 refine za rfl (wl_nil (rk_seq (zs ?_)))
 refine zp (o_faddr (s := 31) (i := 0) (off := 0) Tryz.underlying31 rfl Tryz.sizeOf28 rfl rfl rfl) ?_
 refine wl_r (o_loadbg Tryz.isAgg28 rfl f1 (by rfl)) ?_
 refine zp (o_len (t := 28) Tryz.underlying28 rfl) ?_
 refine zp (o_gt rfl rfl) ?_
 refine zm rfl ?_
 refine wl_know 9 false rfl (decide_eq_false (by omega)) ?_
 refine zp (o_faddr (s := 31) (i := 1) (off := 1) Tryz.underlying31 rfl Tryz.sizeOf29 rfl rfl rfl) ?_
 refine wl_r (o_loadbg Tryz.isAgg29 rfl f1 (by rfl)) ?_
 refine zp (o_len (t := 29) Tryz.underlying29 rfl) ?_
 refine zp (o_gt rfl rfl) ?_
 refine zp (o_pick_f rfl rfl) ?_
 refine wl_nil ?_
 refine rk_if rfl (fun h14 => absurd h14 (by omega)) (fun h14 => ?_)
 refine rk_skip (rk_seq (zs ?_))
 refine zp (o_faddr (s := 31) (i := 2) (off := 2) Tryz.underlying31 rfl Tryz.sizeOf29 rfl rfl rfl) ?_
 refine wl_r (o_loadbg Tryz.isAgg29 rfl f1 (by rfl)) ?_
 refine zp (o_len (t := 29) Tryz.underlying29 rfl) ?_
 refine zp (o_lt rfl rfl) ?_
 refine zm rfl ?_
 refine wl_know 19 false rfl (decide_eq_false (by omega)) ?_
 refine zp (o_faddr (s := 31) (i := 2) (off := 2) Tryz.underlying31 rfl Tryz.sizeOf29 rfl rfl rfl) ?_
 refine wl_r (o_loadbg Tryz.isAgg29 rfl f1 (by rfl)) ?_
 refine zp (o_len (t := 29) Tryz.underlying29 rfl) ?_
 refine zp (o_gt rfl rfl) ?_
 refine zp (o_pick_f rfl rfl) ?_
 refine wl_nil ?_
 refine rk_if rfl (fun h24 => absurd h24 (by omega)) (fun h24 => ?_)
 refine rk_skip (rk_seq (zs ?_))
 refine zp (o_faddr (s := 31) (i := 0) (off := 0) Tryz.underlying31 rfl Tryz.sizeOf28 rfl rfl rfl) ?_
 refine wl_r (o_loadbg Tryz.isAgg28 rfl f1 (by rfl)) ?_
 refine zp (o_len (t := 28) Tryz.underlying28 rfl) ?_
 refine zm rfl (wl_nil (rk_block ?_))
 refine rk_joinf (fun fb fr w2 => fr = [] ++ fb.drop 1 ∧ OkI I ∧ Blk w2 g1 31 [.slice A I.length c, .slice B X.length d, .slice C Y.length e] ∧ Below w.heap.size w w2) ?_ (fun ks hj => ?_)
 rotate_left
 ·refine rk_loopf (fun fb k fr w2 => ∃ (i : Nat) (v : Int), fr = [(28, .int .i64 v)] ++ fb.drop 1 ∧ v = i ∧ i ≤ I.length ∧ k = I.length - i ∧ (∀ j (h : j < I.length), j < i → ((1 ≤ I[j].1.length ∧ I[j].1.length ≤ 16) ∧ I[j].2.length ≤ 32) ∧ (0 < j → cmpL I[j - 1].1 I[j].1 < 0)) ∧ Blk w2 g1 31 [.slice A I.length c, .slice B X.length d, .slice C Y.length e] ∧ w1.heap.size ≤ w2.heap.size ∧ Below w.heap.size w w2) (n := I.length) (Fr.le_of (by kernel_rfl) (by kernel_rfl) (by repeat' constructor)) ⟨0, _, rfl, rfl, by omega, rfl, fun j _ h => absurd h (Nat.not_lt_zero _), f1, Nat.le_refl _, hw⟩ ?_
  clear hw f1
  rintro k fr w2 ⟨i, v, rfl, rfl, hi, rfl, hok, f1, hsz, hw⟩
  have shw := hw.size
  first | refine zf ?_ | refine zg ?_
  refine zs ?_
  refine zp (o_lt rfl rfl) ?_
  refine wl_nil (rk_seq ?_)
  refine rk_if rfl (fun h29 => ?_) (fun h29 => ?_)
  ·have hil : i < I.length := by omega
   obtain ⟨n1, n2⟩ := hL _ (List.getElem_mem hil)
   by_cases k1 : 1 ≤ I[i].1.length ∧ I[i].1.length ≤ 16
   ·by_cases k2 : I[i].2.length ≤ 32
    ·by_cases k3 : 0 < i
     ·have hi1 : i - 1 < I.length := by omega
      obtain ⟨n3, n4⟩ := hL _ (List.getElem_mem hi1)
      refine rk_skip (rk_seq (rk_block (zs (zm rfl ?_))))
      refine zp (o_iaddrA (i) Tryz.underlying28 Tryz.sizeOf94 rfl rfl rfl (hA.some_ (by omega)) (by omega)) ?_
      refine wl_ldItem rfl hA hw (by omega) ?_
      rintro A132 c132 A232 c232 f32 f32_1 i32 i32_1
      refine wl_allocg [_, _] Tryz.zeroValue94 (by rfl) ?_
      rintro g4 w4 f4 b4 i4 i4_1
      have s4 := b4.size
      replace hw := hw.trans (b4.mono hw.size)
      replace f1 := f1.u b4
      refine za rfl ?_
      refine wl_storega Tryz.sizeOf94 rfl rfl (by rfl) (oneCell_of (by rfl)) f4 (by rfl) ?_
      rintro w_1 f g e_1
      have s := g.size
      replace hw := hw.trans (below_of_grownBy g.g hw.size (by omega))
      replace f1 := f1.k g.g (ap_some (by omega))
      clear f4
      refine wl_nil (rk_seq (zs ?_))
      refine zp (o_faddr (s := 94) (i := 0) (off := 0) Tryz.underlying94 rfl Tryz.sizeOf39 rfl rfl rfl) ?_
      refine wl_r (o_loadbg Tryz.isAgg39 rfl f (by rfl)) ?_
      refine wl_call rfl (C_leafKey _ (by omega)) ?_
      rintro v35 w35 ⟨rfl, rfl⟩
      refine zp (o_not rfl) ?_
      refine zm rfl ?_
      refine wl_know 37 false rfl (by simp; omega) ?_
      refine zp (o_faddr (s := 94) (i := 1) (off := 1) Tryz.underlying94 rfl Tryz.sizeOf39 rfl rfl rfl) ?_
      refine wl_r (o_loadbg Tryz.isAgg39 rfl f (by rfl)) ?_
      refine wl_call rfl (C_leafValue _ (by omega)) ?_
      rintro v40 w40 ⟨rfl, rfl⟩
      refine zp (o_not rfl) ?_
      refine zp (o_pick_f rfl rfl) ?_
      refine wl_nil ?_
      rw [decide_eq_true k2]
      refine rk_false rfl ?_
      refine rk_skip (rk_seq ?_)
      refine rk_draw (id := 10) (none) [0, 1, 2, 4, 12, 4, 36, 84, 132, 260, 4, 1028, 2564, 4100, 8196] [0, 1, 3, 7, 15, 7, 39, 127, 255, 511, 7, 1031, 4095, 8191, 16383] 4096 0 [(.p, 0), (.p, 1), (.p, 2), (.p, 3), (.r, 4), (.p, 5), (.p, 6), (.p, 7), (.p, 8), (.r, 9), (.p, 10), (.r, 11), (.l, 12), (.p, 13), (.p, 14)] (by kernel_rfl) (by kernel_rfl) (by kernel_rfl) (by kernel_rfl) (by kernel_rfl) ?_
      replace hw := hw.drew
      replace f1 := f1.d
      replace f := f.d
      refine zm rfl ?_
      refine zp (o_gt rfl rfl) ?_
      refine zm rfl ?_
      refine wl_know 45 true rfl (decide_eq_true (by omega)) ?_
      refine zp (o_faddr (s := 31) (i := 0) (off := 0) Tryz.underlying31 rfl Tryz.sizeOf28 rfl rfl rfl) ?_
      refine wl_r (o_loadbg Tryz.isAgg28 rfl f1 (by rfl)) ?_
      refine zm rfl ?_
      refine zp (o_sub rfl rfl (by omega) (by omega)) ?_
      refine zp (o_iaddrA (i - 1) Tryz.underlying28 Tryz.sizeOf94 rfl rfl (by omega) (hA.some_ (by omega)) (by omega)) ?_
      refine zp (o_faddrR rfl Tryz.underlying94 (by rfl) Tryz.sizeOf39 (by rfl) (by rfl)) ?_
      refine wl_ldKey rfl hA hw (by omega) ?_
      rintro A152 c152 f52 i52
      refine zp (o_faddr (s := 94) (i := 0) (off := 0) Tryz.underlying94 rfl Tryz.sizeOf39 rfl rfl rfl) ?_
      refine wl_r (o_loadbg Tryz.isAgg39 rfl f (by rfl)) ?_
      refine wl_call rfl (C_leafCompare _ (f52.u hw) (f32.u hw) rfl rfl (by omega) (by omega)) ?_
      rintro v55 w55 ⟨rfl, b55⟩
      simp only [drew_size] at b55
      have s55 := b55.size
      simp only [drew_size] at s55
      replace hw := hw.trans (b55.mono hw.size)
      replace f := f.u b55
      replace f1 := f1.u b55
      refine zp (o_ge rfl rfl) ?_
      refine zp (o_pick_t rfl rfl) ?_
      refine wl_nild ?_
      refine rk_if rfl (fun h57 => ?_) (fun h57 => ?_)
      ·rw [if_neg (fun h => absurd ((h.2.2.1 i hil).2 k3) (by omega))]
       refine zs (za rfl (wl_nil ?_))
       refine ret1 rfl rfl ?_
       exact ⟨rfl, hw⟩
      ·refine rk_skip ?_
       refine rk_blk ?_
       refine rk_region ?_
       refine zp (o_add rfl rfl (by omega) (by omega)) ?_
       refine zm rfl (wl_nil ?_)
       exact rk_againf (Fr.le_of (by kernel_rfl) (by kernel_rfl) (by repeat' constructor)) ⟨i + 1, (i : Int) + 1, rfl, by omega, by omega, rfl, fun j hj hji => by
        rcases Nat.lt_or_ge j i with h | h
        ·exact hok j hj h
        ·obtain rfl : j = i := by omega
         exact ⟨⟨k1, k2⟩, fun _ => by omega⟩, f1, by omega, hw⟩ (by omega)
     ·refine rk_skip ?_
      refine rk_seq (rk_block (zs (zm rfl ?_)))
      refine zp (o_iaddrA (i) Tryz.underlying28 Tryz.sizeOf94 rfl rfl rfl (hA.some_ (by omega)) (by omega)) ?_
      refine wl_ldItem rfl hA hw (by omega) ?_
      rintro A132 c132 A232 c232 f32 f32_1 i32 i32_1
      refine wl_allocg [_, _] Tryz.zeroValue94 (by rfl) ?_
      rintro g4 w4 f4 b4 i4 i4_1
      have s4 := b4.size
      replace hw := hw.trans (b4.mono hw.size)
      replace f1 := f1.u b4
      refine za rfl ?_
      refine wl_storega Tryz.sizeOf94 rfl rfl (by rfl) (oneCell_of (by rfl)) f4 (by rfl) ?_
      rintro w_1 f g e_1
      have s := g.size
      replace hw := hw.trans (below_of_grownBy g.g hw.size (by omega))
      replace f1 := f1.k g.g (ap_some (by omega))
      clear f4
      refine wl_nil (rk_seq (zs ?_))
      refine zp (o_faddr (s := 94) (i := 0) (off := 0) Tryz.underlying94 rfl Tryz.sizeOf39 rfl rfl rfl) ?_
      refine wl_r (o_loadbg Tryz.isAgg39 rfl f (by rfl)) ?_
      refine wl_call rfl (C_leafKey _ (by omega)) ?_
      rintro v35 w35 ⟨rfl, rfl⟩
      refine zp (o_not rfl) ?_
      refine zm rfl ?_
      refine wl_know 37 false rfl (by simp; omega) ?_
      refine zp (o_faddr (s := 94) (i := 1) (off := 1) Tryz.underlying94 rfl Tryz.sizeOf39 rfl rfl rfl) ?_
      refine wl_r (o_loadbg Tryz.isAgg39 rfl f (by rfl)) ?_
      refine wl_call rfl (C_leafValue _ (by omega)) ?_
      rintro v40 w40 ⟨rfl, rfl⟩
      refine zp (o_not rfl) ?_
      refine zp (o_pick_f rfl rfl) ?_
      refine wl_nil ?_
      rw [decide_eq_true k2]
      refine rk_false rfl ?_
      refine rk_skip (rk_seq ?_)
      refine rk_draw (id := 10) (none) [0, 1, 2, 4, 12, 4, 36, 84, 132, 260, 4, 1028, 2564, 4100, 8196] [0, 1, 3, 7, 15, 7, 39, 127, 255, 511, 7, 1031, 4095, 8191, 16383] 4096 0 [(.p, 0), (.p, 1), (.p, 2), (.p, 3), (.r, 4), (.p, 5), (.p, 6), (.p, 7), (.p, 8), (.r, 9), (.p, 10), (.r, 11), (.l, 12), (.p, 13), (.p, 14)] (by kernel_rfl) (by kernel_rfl) (by kernel_rfl) (by kernel_rfl) (by kernel_rfl) ?_
      replace hw := hw.drew
      replace f1 := f1.d
      replace f := f.d
      refine zm rfl ?_
      refine zp (o_gt rfl rfl) ?_
      refine zm rfl ?_
      refine wl_know 45 false rfl (decide_eq_false (by omega)) ?_
      refine wl_off (wl_off (wl_off (wl_off (wl_off (wl_off (wl_off (wl_off (wl_off (wl_off (wl_off ?_))))))))))
      refine zp (o_pick_f rfl rfl) ?_
      refine wl_nild ?_
      refine rk_false rfl ?_
      refine rk_skip ?_
      refine rk_blk ?_
      refine rk_region ?_
      refine zp (o_add rfl rfl (by omega) (by omega)) ?_
      refine zm rfl (wl_nil ?_)
      exact rk_againf (Fr.le_of (by kernel_rfl) (by kernel_rfl) (by repeat' constructor)) ⟨i + 1, (i : Int) + 1, rfl, by omega, by omega, rfl, fun j hj hji => by
       rcases Nat.lt_or_ge j i with h | h
       ·exact hok j hj h
       ·obtain rfl : j = i := by omega
        exact ⟨⟨k1, k2⟩, fun h => absurd h k3⟩, f1, by first | omega | (simp only [drew_size]; omega), hw⟩ (by omega)
    ·rw [if_neg (fun h => k2 (h.2.2.1 i hil).1.2)]
     refine rk_skip (rk_seq (rk_block (zs (zm rfl ?_))))
     refine zp (o_iaddrA (i) Tryz.underlying28 Tryz.sizeOf94 rfl rfl rfl (hA.some_ (by omega)) (by omega)) ?_
     refine wl_ldItem rfl hA hw (by omega) ?_
     rintro A132 c132 A232 c232 f32 f32_1 i32 i32_1
     refine wl_allocg [_, _] Tryz.zeroValue94 (by rfl) ?_
     rintro g4 w4 f4 b4 i4 i4_1
     have s4 := b4.size
     replace hw := hw.trans (b4.mono hw.size)
     replace f1 := f1.u b4
     refine za rfl ?_
     refine wl_storega Tryz.sizeOf94 rfl rfl (by rfl) (oneCell_of (by rfl)) f4 (by rfl) ?_
     rintro w_1 f g e_1
     have s := g.size
     replace hw := hw.trans (below_of_grownBy g.g hw.size (by omega))
     replace f1 := f1.k g.g (ap_some (by omega))
     clear f4
     refine wl_nil (rk_seq (zs ?_))
     refine zp (o_faddr (s := 94) (i := 0) (off := 0) Tryz.underlying94 rfl Tryz.sizeOf39 rfl rfl rfl) ?_
     refine wl_r (o_loadbg Tryz.isAgg39 rfl f (by rfl)) ?_
     refine wl_call rfl (C_leafKey _ (by omega)) ?_
     rintro v35 w35 ⟨rfl, rfl⟩
     refine zp (o_not rfl) ?_
     refine zm rfl ?_
     refine wl_know 37 false rfl (by simp; omega) ?_
     refine zp (o_faddr (s := 94) (i := 1) (off := 1) Tryz.underlying94 rfl Tryz.sizeOf39 rfl rfl rfl) ?_
     refine wl_r (o_loadbg Tryz.isAgg39 rfl f (by rfl)) ?_
     refine wl_call rfl (C_leafValue _ (by omega)) ?_
     rintro v40 w40 ⟨rfl, rfl⟩
     refine zp (o_not rfl) ?_
     refine zp (o_pick_f rfl rfl) ?_
     refine wl_nil ?_
     rw [decide_eq_false k2]
     refine rk_true rfl ?_
     refine zs (za rfl (wl_nil ?_))
     refine ret1 rfl rfl ?_
     exact ⟨rfl, hw⟩
   ·rw [if_neg (fun h => k1 (h.2.2.1 i hil).1.1)]
    refine rk_skip (rk_seq (rk_block (zs (zm rfl ?_))))
    refine zp (o_iaddrA (i) Tryz.underlying28 Tryz.sizeOf94 rfl rfl rfl (hA.some_ (by omega)) (by omega)) ?_
    refine wl_ldItem rfl hA hw (by omega) ?_
    rintro A132 c132 A232 c232 f32 f32_1 i32 i32_1
    refine wl_allocg [_, _] Tryz.zeroValue94 (by rfl) ?_
    rintro g4 w4 f4 b4 i4 i4_1
    have s4 := b4.size
    replace hw := hw.trans (b4.mono hw.size)
    replace f1 := f1.u b4
    refine za rfl ?_
    refine wl_storega Tryz.sizeOf94 rfl rfl (by rfl) (oneCell_of (by rfl)) f4 (by rfl) ?_
    rintro w_1 f g e_1
    have s := g.size
    replace hw := hw.trans (below_of_grownBy g.g hw.size (by omega))
    replace f1 := f1.k g.g (ap_some (by omega))
    clear f4
    refine wl_nil (rk_seq (zs ?_))
    refine zp (o_faddr (s := 94) (i := 0) (off := 0) Tryz.underlying94 rfl Tryz.sizeOf39 rfl rfl rfl) ?_
    refine wl_r (o_loadbg Tryz.isAgg39 rfl f (by rfl)) ?_
    refine wl_call rfl (C_leafKey _ (by omega)) ?_
    rintro v35 w35 ⟨rfl, rfl⟩
    refine zp (o_not rfl) ?_
    refine zm rfl ?_
    rw [decide_eq_false k1]
    refine wl_off (wl_off (wl_off (wl_off ?_)))
    refine zp (o_pick_t rfl rfl) ?_
    refine wl_nil ?_
    refine rk_true rfl ?_
    refine zs (za rfl (wl_nil ?_))
    refine ret1 rfl rfl ?_
    exact ⟨rfl, hw⟩
  ·refine rk_exit rfl ?_
   exact rk_tof hj (Fr.le_of (by kernel_rfl) (by kernel_rfl) (by repeat' constructor)) ⟨rfl, fun j h => hok j h (by omega), f1, hw⟩
 clear hw f1
 rintro fr w2 ⟨rfl, hI, f1, hw⟩
 have shw := hw.size
 first | refine zf ?_ | refine zg ?_
 by_cases h5 : IncK X
 ·by_cases h6 : IncK Y
  ·rw [if_pos ⟨⟨by omega, by omega⟩, ⟨by omega, by omega⟩, hI, h5, h6⟩]
   refine rk_seq (zs ?_)
   refine zp (o_faddr (s := 31) (i := 1) (off := 1) Tryz.underlying31 rfl Tryz.sizeOf29 rfl rfl rfl) ?_
   refine wl_r (o_loadbg Tryz.isAgg29 rfl f1 (by rfl)) ?_
   refine wl_call rfl (C_increasing _ (hB.u hw) rfl (by omega)) ?_
   rintro v61 w61 ⟨rfl, b61⟩
   have s61 := b61.size
   replace hw := hw.trans (b61.mono hw.size)
   replace f1 := f1.u b61
   refine zp (o_not rfl) ?_
   refine zm rfl ?_
   refine wl_know 63 false rfl (by simp; omega) ?_
   refine zp (o_faddr (s := 31) (i := 2) (off := 2) Tryz.underlying31 rfl Tryz.sizeOf29 rfl rfl rfl) ?_
   refine wl_r (o_loadbg Tryz.isAgg29 rfl f1 (by rfl)) ?_
   refine wl_call rfl (C_increasing _ (hC.u hw) rfl (by omega)) ?_
   rintro v66 w66 ⟨rfl, b66⟩
   have s66 := b66.size
   replace hw := hw.trans (b66.mono hw.size)
   replace f1 := f1.u b66
   refine zp (o_not rfl) ?_
   refine zp (o_pick_f rfl rfl) ?_
   refine wl_nil ?_
   rw [decide_eq_true h6]
   refine rk_false rfl ?_
   refine rk_skip (zs (za rfl (wl_nil ?_)))
   refine ret1 rfl rfl ?_
   exact ⟨rfl, hw⟩
  ·rw [if_neg (fun h => h6 h.2.2.2.2)]
   refine rk_seq (zs ?_)
   refine zp (o_faddr (s := 31) (i := 1) (off := 1) Tryz.underlying31 rfl Tryz.sizeOf29 rfl rfl rfl) ?_
   refine wl_r (o_loadbg Tryz.isAgg29 rfl f1 (by rfl)) ?_
   refine wl_call rfl (C_increasing _ (hB.u hw) rfl (by omega)) ?_
   rintro v61 w61 ⟨rfl, b61⟩
   have s61 := b61.size
   replace hw := hw.trans (b61.mono hw.size)
   replace f1 := f1.u b61
   refine zp (o_not rfl) ?_
   refine zm rfl ?_
   refine wl_know 63 false rfl (by simp; omega) ?_
   refine zp (o_faddr (s := 31) (i := 2) (off := 2) Tryz.underlying31 rfl Tryz.sizeOf29 rfl rfl rfl) ?_
   refine wl_r (o_loadbg Tryz.isAgg29 rfl f1 (by rfl)) ?_
   refine wl_call rfl (C_increasing _ (hC.u hw) rfl (by omega)) ?_
   rintro v66 w66 ⟨rfl, b66⟩
   have s66 := b66.size
   replace hw := hw.trans (b66.mono hw.size)
   replace f1 := f1.u b66
   refine zp (o_not rfl) ?_
   refine zp (o_pick_f rfl rfl) ?_
   refine wl_nil ?_
   rw [decide_eq_false h6]
   refine rk_true rfl ?_
   refine zs (za rfl (wl_nil ?_))
   refine ret1 rfl rfl ?_
   exact ⟨rfl, hw⟩
 ·rw [if_neg (fun h => h5 h.2.2.2.1)]
  refine rk_seq (zs ?_)
  refine zp (o_faddr (s := 31) (i := 1) (off := 1) Tryz.underlying31 rfl Tryz.sizeOf29 rfl rfl rfl) ?_
  refine wl_r (o_loadbg Tryz.isAgg29 rfl f1 (by rfl)) ?_
  refine wl_call rfl (C_increasing _ (hB.u hw) rfl (by omega)) ?_
  rintro v61 w61 ⟨rfl, b61⟩
  have s61 := b61.size
  replace hw := hw.trans (b61.mono hw.size)
  replace f1 := f1.u b61
  refine zp (o_not rfl) ?_
  refine zm rfl ?_
  refine wl_know 63 true rfl (by simp; omega) ?_
  refine wl_off (wl_off (wl_off (wl_off ?_)))
  refine zp (o_pick_t rfl rfl) ?_
  refine wl_nil ?_
  refine rk_true rfl ?_
  refine zs (za rfl (wl_nil ?_))
  rw [decide_eq_false h5]
  refine ret1 rfl rfl ?_
  exact ⟨rfl, hw⟩
end Go.Proofs.YtahkeoegbjopfaaGreat
namespace Go.Proofs.YtahkeoegbjopfaaGreat
set_option maxRecDepth 100000
open Go.RowKit
theorem C_checkStateOk {A B C : Option Addr} {I : List (By × By)} {X Y : List Ky} {n c m d q e : Nat} (w : World) (hA : RI w A I) (hB : RKs w B X) (hC : RKs w C Y) (hn : n = I.length) (hm : m = X.length) (hq : q = Y.length) (hl : I.length ≤ 4000000) (hl2 : X.length ≤ 4000000) (hl3 : Y.length ≤ 4000000) (hL : LtI I) (hok : OkSt I X Y) :
  CallsR Tryz.prog 17 [.agg #[.slice A n c, .slice B m d, .slice C q e]] w fun v w' => v = .int .i64 0 ∧ Below w.heap.size w w' := by
 have h := K_checkState (n := n) (c := c) (m := m) (d := d) (q := q) (e := e) w hA hB hC hn hm hq hl hl2 hl3 hL
 rwa [if_pos hok] at h
theorem C_checkStateBad {A B C : Option Addr} {I : List (By × By)} {X Y : List Ky} {n c m d q e : Nat} (w : World) (hA : RI w A I) (hB : RKs w B X) (hC : RKs w C Y) (hn : n = I.length) (hm : m = X.length) (hq : q = Y.length) (hl : I.length ≤ 4000000) (hl2 : X.length ≤ 4000000) (hl3 : Y.length ≤ 4000000) (hL : LtI I) (hok : ¬OkSt I X Y) :
  CallsR Tryz.prog 17 [.agg #[.slice A n c, .slice B m d, .slice C q e]] w fun v w' => v = .int .i64 2 ∧ Below w.heap.size w w' := by
 have h := K_checkState (n := n) (c := c) (m := m) (d := d) (q := q) (e := e) w hA hB hC hn hm hq hl hl2 hl3 hL
 rwa [if_neg hok] at h
def low (L : List By) (p : By) : Nat := L.countP (fun x => decide (cmpL x p < 0))
def Srt (L : List By) : Prop := ∀ i (h : i < L.length), 0 < i → cmpL L[i - 1] L[i] < 0
theorem low_le (L : List By) (p : By) : low L p ≤ L.length := List.countP_le_length
theorem count_cut {α : Type} (p : α → Bool) : ∀ (l : List α) (k : Nat), k ≤ l.length → (∀ j (h : j < l.length), j < k → p l[j] = true) → (∀ j (h : j < l.length), k ≤ j → p l[j] = false) → l.countP p = k
 | [], k, hk, _, _ => by simp at hk; simp [hk]
 | x :: l, 0, _, _, h2 => by
  rw [List.countP_eq_zero]
  intro y hy
  obtain ⟨j, hj, rfl⟩ := List.getElem_of_mem hy
  simp [h2 j hj (Nat.zero_le _)]
 | x :: l, k + 1, hk, h1, h2 => by
  have h0 : p x = true := h1 0 (by simp) (by omega)
  rw [List.countP_cons_of_pos h0, count_cut p l k (by simpa using hk) (fun j hj hjk => h1 (j + 1) (by simpa using hj) (by omega)) (fun j hj hjk => h2 (j + 1) (by simpa using hj) (by omega))]
theorem cmpL_chain {l : List By} (h : Srt l) : ∀ (j i : Nat) (hj : j < l.length) (hij : i < j), cmpL l[i] l[j] < 0
 | 0, i, _, hij => absurd hij (Nat.not_lt_zero _)
 | j + 1, i, hj, hij => by
  have h1 := h (j + 1) hj (by omega)
  simp only [Nat.add_sub_cancel] at h1
  rcases Nat.lt_or_ge i j with h2 | h2
  ·exact cmpL_trans _ _ _ (cmpL_chain h j i (by omega) h2) h1
  ·obtain rfl : i = j := by omega
   exact h1
theorem low_eq {l : List By} {p : By} {k : Nat} (hk : k ≤ l.length) (h1 : ∀ j (h : j < l.length), j < k → cmpL l[j] p < 0) (h2 : ∀ j (h : j < l.length), k ≤ j → 0 ≤ cmpL l[j] p) : low l p = k :=
 count_cut _ l k hk (fun j hj hjk => by simpa using h1 j hj hjk) (fun j hj hjk => by simpa using h2 j hj hjk)
theorem has_eq {l : List By} {p : By} {k : Nat} (hs : Srt l) (h1 : ∀ j (h : j < l.length), j < k → cmpL l[j] p < 0) (h2 : ∀ j (h : j < l.length), k ≤ j → 0 ≤ cmpL l[j] p) : p ∈ l ↔ ∃ h : k < l.length, cmpL l[k] p = 0 := by
 constructor
 ·intro h
  obtain ⟨j, hj, rfl⟩ := List.getElem_of_mem h
  have h0 := cmpL_self l[j]
  rcases Nat.lt_trichotomy j k with h3 | h3 | h3
  ·have := h1 j hj h3; omega
  ·subst h3; exact ⟨hj, h0⟩
  ·have h4 := h2 k (by omega) (Nat.le_refl _)
   have h5 := cmpL_chain hs j k hj h3
   omega
 ·rintro ⟨h, h0⟩
  have e := (cmpL_zero _ _).1 h0
  rw [← e]
  exact List.getElem_mem h
theorem below_all {l : List By} {p : By} (hs : Srt l) {h : Nat} (hh : h < l.length) (hc : cmpL l[h] p < 0) : ∀ j (hj : j < l.length), j < h + 1 → cmpL l[j] p < 0 := fun j hj hjh => by
 rcases Nat.lt_or_ge j h with h3 | h3
 ·exact cmpL_trans _ _ _ (cmpL_chain hs h j hh h3) hc
 ·obtain rfl : j = h := by omega
  exact hc
theorem above_all {l : List By} {p : By} (hs : Srt l) {h : Nat} (hh : h < l.length) (hc : 0 ≤ cmpL l[h] p) : ∀ j (hj : j < l.length), h ≤ j → 0 ≤ cmpL l[j] p := fun j hj hjh => by
 rcases Nat.lt_or_ge h j with h3 | h3
 ·rcases Int.lt_or_le (cmpL l[j] p) 0 with h4 | h4
  ·have := cmpL_trans _ _ _ (cmpL_chain hs j h hj h3) h4
   omega
  ·exact h4
 ·obtain rfl : j = h := by omega
  exact hc
theorem C_find1 {K V P : Option Addr} {a p : By} {n c m d q e : Nat} (w : World) (hK : Rd w K a) (hP : Rd w P p) (hn : n = a.length) (hq : q = p.length) (hl : a.length ≤ 4000000) (hl2 : p.length ≤ 4000000) :
  CallsR Tryz.prog 91 [.agg #[.slice K n c, .slice V m d], .slice P q e] w fun v w' => v = .int .i64 (cmpL a p) ∧ Below w.heap.size w w' := by
 subst hn; subst hq
 refine callsR Tryz.func91 rfl rfl (by kernel_rfl) rfl ?_
 have hw := Below.refl w.heap.size w
 refine zs ?_
 refine wl_boxg [_, _] rfl (by rfl) ?_
 rintro g2 w2 f2 b2 i2 i2_1
 have s2 := b2.size
 replace hw := hw.trans (b2.mono hw.size)
 refine za rfl (wl_nil (zs ?_))
 refine zp (o_faddr (s := 94) (i := 0) (off := 0) Tryz.underlying94 rfl Tryz.sizeOf39 rfl rfl rfl) ?_
 refine wl_r (o_loadbg Tryz.isAgg39 rfl f2 (by rfl)) ?_
 refine zm rfl ?_
 refine wl_call rfl (C_leafCompare _ (hK.u hw) (hP.u hw) rfl rfl (by omega) (by omega)) ?_
 rintro v8 w8 ⟨rfl, b8⟩
 have s8 := b8.size
 replace hw := hw.trans (b8.mono hw.size)
 replace f2 := f2.u b8
 refine za rfl (wl_nil ?_)
 refine ret1 rfl rfl ?_
 exact ⟨rfl, hw⟩
theorem C_bsI {A : Option Addr} {I : List (By × By)} {P : Option Addr} {p : By} {n c q e : Nat} (w : World) (hA : RI w A I) (hP : Rd w P p) (hq : q = p.length) (hl2 : p.length ≤ 4000000) (hn : n = I.length) (hl : I.length ≤ 4000000) (hL : LtI I) (hs : Srt (I.map Prod.fst)) :
  CallsR Tryz.prog 90 [.slice A n c, .slice P q e, .func (.func 91) #[] #[]] w fun v w' => v = .tuple #[.int .i64 (low (I.map Prod.fst) p : Nat), .bool (decide (p ∈ I.map Prod.fst))] ∧ Below w.heap.size w w' := by
 obtain ⟨L, hLL⟩ : ∃ L, I.map Prod.fst = L := ⟨_, rfl⟩
 rw [hLL] at hs ⊢
 have hLn : L.length = I.length := by rw [← hLL, List.length_map]
 have hLg : ∀ j (h : j < I.length), L[j]'(by omega) = I[j].1 := fun j h => by subst hLL; rw [List.getElem_map]
 subst hn; subst hq
 refine callsR Tryz.func90 rfl rfl (by kernel_rfl) rfl ?_
 have hw := Below.refl w.heap.size w
 refine zs (za rfl (za rfl (wl_nil (zs (zm rfl ?_)))))
 refine zp (o_len (t := 28) Tryz.underlying28 rfl) ?_
 refine za rfl (wl_nil (zs (zm rfl (za rfl (za rfl (wl_nil (rk_seq (rk_block ?_))))))))
 refine rk_joinf (fun fb fr w2 => ∃ (i : Nat) (v : Int), fr = [(9, .int .i64 v), (10, .int .i64 v)] ++ fb.drop 2 ∧ v = i ∧ i ≤ I.length ∧ (∀ j (h : j < L.length), j < i → cmpL L[j] p < 0) ∧ (∀ j (h : j < L.length), i ≤ j → 0 ≤ cmpL L[j] p) ∧ Below w.heap.size w w2) ?_ (fun ks hj => ?_)
 rotate_left
 ·refine rk_loopf (fun fb m fr w2 => ∃ (i k : Nat) (v v2 : Int), fr = [(9, .int .i64 v), (10, .int .i64 v2)] ++ fb.drop 2 ∧ v = i ∧ v2 = k ∧ i ≤ k ∧ k ≤ I.length ∧ m = k - i ∧ (∀ j (h : j < L.length), j < i → cmpL L[j] p < 0) ∧ (∀ j (h : j < L.length), k ≤ j → 0 ≤ cmpL L[j] p) ∧ Below w.heap.size w w2) (n := I.length) (Fr.le_of (by kernel_rfl) (by kernel_rfl) (by repeat' constructor)) ⟨0, I.length, _, _, rfl, rfl, rfl, by omega, Nat.le_refl _, rfl, fun j _ h => absurd h (Nat.not_lt_zero _), fun j h h2 => absurd h (by omega), hw⟩ ?_
  clear hw
  rintro m fr w2 ⟨i, k, v, v2, rfl, rfl, rfl, hik, hk, rfl, h1, h2, hw⟩
  have shw := hw.size
  first | refine zf ?_ | refine zg ?_
  refine rk_seq (zs (zm rfl (zm rfl ?_)))
  refine zp (o_lt rfl rfl) ?_
  refine wl_nil ?_
  refine rk_if rfl (fun h17 => ?_) (fun h17 => ?_)
  ·refine rk_skip ?_
   refine rk_block (zs (zm rfl (zm rfl ?_)))
   refine zp (o_add rfl rfl (by omega) (by omega)) ?_
   refine zp (o_convu64 (src := 3) (dst := 102) Tryz.underlying3 Tryz.underlying102 rfl (by omega) (by omega)) ?_
   refine zp (o_shr rfl rfl (by omega)) ?_
   obtain ⟨h, hhd⟩ : ∃ h, (i + k) / 2 = h := ⟨_, rfl⟩
   rw [show ((i : Int) + (k : Int)) / 2 ^ min (Int.toNat 1) IntKind.u64.bits = (h : Int) by
    show ((i : Int) + (k : Int)) / 2 = _
    omega]
   have hhl : h < I.length := by omega
   have hg := hLg h hhl
   refine zp (o_convi64 (src := 102) (dst := 3) Tryz.underlying102 Tryz.underlying3 rfl (by omega) (by omega)) ?_
   refine za rfl (wl_nil (zs (zm rfl (zm rfl (zm rfl ?_)))))
   refine zp (o_iaddrA (h) Tryz.underlying28 Tryz.sizeOf94 rfl rfl rfl (hA.some_ (by omega)) (by omega)) ?_
   refine wl_ldItem rfl hA hw (by omega) ?_
   rintro A128 c128 A228 c228 f28 f28_1 i28 i28_1
   refine zm rfl ?_
   refine wl_callf (xs := [_, _]) (cs := []) rfl rfl (C_find1 _ (f28.below hw) (hP.below hw) rfl rfl (hL _ (List.getElem_mem hhl)).1 hl2) ?_
   rintro _ w30 ⟨rfl, b30⟩
   have sb30 := b30.size
   replace hw := hw.trans (b30.mono hw.size)
   refine zp (o_lt rfl rfl) ?_
   refine wl_nil ?_
   refine rk_if rfl (fun h31 => ?_) (fun h31 => ?_)
   ·refine rk_region ?_
    refine zm rfl ?_
    refine zp (o_add rfl rfl (by omega) (by omega)) ?_
    refine za rfl (wl_nil ?_)
    refine rk_blk ?_
    exact rk_againf (Fr.le_of (by kernel_rfl) (by kernel_rfl) (by repeat' constructor)) ⟨h + 1, k, (h : Int) + 1, _, rfl, by omega, rfl, by omega, by omega, rfl, below_all hs (by omega) (by rw [hg]; exact h31), h2, hw⟩ (by omega)
   ·refine rk_region ?_
    refine zm rfl (za rfl (wl_nil ?_))
    refine rk_blk ?_
    exact rk_againf (Fr.le_of (by kernel_rfl) (by kernel_rfl) (by repeat' constructor)) ⟨i, h, _, _, rfl, rfl, rfl, by omega, by omega, rfl, h1, above_all hs (by omega) (by rw [hg]; omega), hw⟩ (by omega)
  ·refine rk_exit rfl ?_
   obtain rfl : i = k := by omega
   exact rk_tof hj (Fr.le_of (by kernel_rfl) (by kernel_rfl) (by repeat' constructor)) ⟨i, _, rfl, rfl, by omega, h1, h2, hw⟩
 clear hw
 rintro fr w2 ⟨i, v, rfl, rfl, hi, h1, h2, hw⟩
 have shw := hw.size
 rw [low_eq (by omega) h1 h2]
 have hhas := has_eq hs h1 h2
 first | refine zf ?_ | refine zg ?_
 by_cases hil : i < I.length
 ·have hg := hLg i hil
  refine zs (zm rfl (zm rfl (zm rfl ?_)))
  refine zp (o_lt rfl rfl) ?_
  refine zm rfl ?_
  refine wl_know 39 true rfl (decide_eq_true (by omega)) ?_
  refine zm rfl (zm rfl (zm rfl ?_))
  refine zp (o_iaddrA (i) Tryz.underlying28 Tryz.sizeOf94 rfl rfl rfl (hA.some_ (by omega)) (by omega)) ?_
  refine wl_ldItem rfl hA hw (by omega) ?_
  rintro A144 c144 A244 c244 f44 f44_1 i44 i44_1
  refine zm rfl ?_
  refine wl_callf (xs := [_, _]) (cs := []) rfl rfl (C_find1 _ (f44.below hw) (hP.below hw) rfl rfl (hL _ (List.getElem_mem hil)).1 hl2) ?_
  rintro _ w46 ⟨rfl, b46⟩
  have sb46 := b46.size
  replace hw := hw.trans (b46.mono hw.size)
  refine zp (o_eq rfl rfl) ?_
  refine zp (o_pick_t rfl rfl) ?_
  refine za rfl (za rfl (wl_nil ?_))
  refine ret2 rfl rfl rfl ?_
  refine ⟨?_, hw⟩
  rw [decide_eq_decide.2 (show cmpL I[i].1 p = 0 ↔ p ∈ L by rw [hhas, ← hg]; exact ⟨fun h => ⟨by omega, h⟩, fun h => h.2⟩)]
 ·refine zs ?_
  refine zm rfl (zm rfl (zm rfl ?_))
  refine zp (o_lt rfl rfl) ?_
  refine zm rfl ?_
  refine wl_know 39 false rfl (decide_eq_false (by omega)) ?_
  refine wl_off (wl_off (wl_off (wl_off (wl_off (wl_off (wl_off (wl_off ?_)))))))
  refine zp (o_pick_f rfl rfl) ?_
  refine za rfl (za rfl (wl_nil ?_))
  refine ret2 rfl rfl rfl ?_
  refine ⟨?_, hw⟩
  rw [decide_eq_false (show ¬ p ∈ L by rw [hhas]; exact fun h => hil (by have := h.1; omega))]
theorem C_bsK {A : Option Addr} {I : List Ky} {u : Ky} {n c : Nat} (w : World) (hA : RKs w A I) (hn : n = I.length) (hl : I.length ≤ 4000000) (hs : Srt (I.map Subtype.val)) :
  CallsR Tryz.prog 164 [.slice A n c, .agg (B8 u.1).toArray, .func (.func 88) #[] #[]] w fun v w' => v = .tuple #[.int .i64 (low (I.map Subtype.val) u.1 : Nat), .bool (decide (u.1 ∈ I.map Subtype.val))] ∧ Below w.heap.size w w' := by
 obtain ⟨L, hLL⟩ : ∃ L, I.map Subtype.val = L := ⟨_, rfl⟩
 rw [hLL] at hs ⊢
 have hLn : L.length = I.length := by rw [← hLL, List.length_map]
 have hLg : ∀ j (h : j < I.length), L[j]'(by omega) = I[j].1 := fun j h => by subst hLL; rw [List.getElem_map]
 subst hn
 refine callsR Tryz.func164 rfl rfl (by kernel_rfl) rfl ?_
 have hw := Below.refl w.heap.size w
 refine zs ?_
 refine wl_boxg _ rfl (by rfl) ?_
 rintro g4 w4 f4 b4 i4 i4_1
 have s4 := b4.size
 replace hw := hw.trans (b4.mono hw.size)
 refine za rfl (za rfl (wl_nil (zs (zm rfl ?_))))
 refine zp (o_len (t := 29) Tryz.underlying29 rfl) ?_
 refine za rfl (wl_nil (zs (zm rfl (za rfl (za rfl (wl_nil (rk_seq (rk_block ?_))))))))
 refine rk_joinf (fun fb fr w2 => ∃ (i : Nat) (v : Int), fr = [(9, .int .i64 v), (10, .int .i64 v)] ++ fb.drop 2 ∧ v = i ∧ i ≤ I.length ∧ (∀ j (h : j < L.length), j < i → cmpL L[j] u.1 < 0) ∧ (∀ j (h : j < L.length), i ≤ j → 0 ≤ cmpL L[j] u.1) ∧ Blk w2 g4 42 (B8 u.1) ∧ w4.heap.size ≤ w2.heap.size ∧ Below w.heap.size w w2) ?_ (fun ks hj => ?_)
 rotate_left
 ·refine rk_loopf (fun fb m fr w2 => ∃ (i k : Nat) (v v2 : Int), fr = [(9, .int .i64 v), (10, .int .i64 v2)] ++ fb.drop 2 ∧ v = i ∧ v2 = k ∧ i ≤ k ∧ k ≤ I.length ∧ m = k - i ∧ (∀ j (h : j < L.length), j < i → cmpL L[j] u.1 < 0) ∧ (∀ j (h : j < L.length), k ≤ j → 0 ≤ cmpL L[j] u.1) ∧ Blk w2 g4 42 (B8 u.1) ∧ w4.heap.size ≤ w2.heap.size ∧ Below w.heap.size w w2) (n := I.length) (Fr.le_of (by kernel_rfl) (by kernel_rfl) (by repeat' constructor)) ⟨0, I.length, _, _, rfl, rfl, rfl, by omega, Nat.le_refl _, rfl, fun j _ h => absurd h (Nat.not_lt_zero _), fun j h h2 => absurd h (by omega), f4, Nat.le_refl _, hw⟩ ?_
  clear hw f4
  rintro m fr w2 ⟨i, k, v, v2, rfl, rfl, rfl, hik, hk, rfl, h1, h2, f4, hsz, hw⟩
  have shw := hw.size
  first | refine zf ?_ | refine zg ?_
  refine rk_seq (zs (zm rfl (zm rfl ?_)))
  refine zp (o_lt rfl rfl) ?_
  refine wl_nil ?_
  refine rk_if rfl (fun h17 => ?_) (fun h17 => ?_)
  ·refine rk_skip ?_
   refine rk_block (zs (zm rfl (zm rfl ?_)))
   refine zp (o_add rfl rfl (by omega) (by omega)) ?_
   refine zp (o_convu64 (src := 3) (dst := 102) Tryz.underlying3 Tryz.underlying102 rfl (by omega) (by omega)) ?_
   refine zp (o_shr rfl rfl (by omega)) ?_
   obtain ⟨h, hhd⟩ : ∃ h, (i + k) / 2 = h := ⟨_, rfl⟩
   rw [show ((i : Int) + (k : Int)) / 2 ^ min (Int.toNat 1) IntKind.u64.bits = (h : Int) by
    show ((i : Int) + (k : Int)) / 2 = _
    omega]
   have hhl : h < I.length := by omega
   have hg := hLg h hhl
   refine zp (o_convi64 (src := 102) (dst := 3) Tryz.underlying102 Tryz.underlying3 rfl (by omega) (by omega)) ?_
   refine za rfl (wl_nil (rk_seq ?_))
   refine rk_draw (id := 5) (none) [0, 0, 0, 6, 8, 0, 49, 64] [0, 0, 0, 6, 14, 0, 63, 127] 64 0 [(.p, 0), (.p, 1), (.p, 2), (.p, 3), (.r, 4), (.r, 5), (.l, 6), (.p, 7)] (by kernel_rfl) (by kernel_rfl) (by kernel_rfl) (by kernel_rfl) (by kernel_rfl) ?_
   replace hw := hw.drew
   replace f4 := f4.d
   refine zm rfl (zm rfl (zm rfl ?_))
   refine zp (o_iaddrA (h) Tryz.underlying29 Tryz.sizeOf42 rfl rfl rfl (hA.some_ (by omega)) (by omega)) ?_
   refine wl_r (o_ldKs rfl hA hw (by omega)) ?_
   refine wl_r (o_ldKyB rfl f4) ?_
   refine wl_callf (xs := [_, _]) (cs := []) rfl rfl (C_opsCompare _) ?_
   rintro _ w30 ⟨rfl, b30⟩
   have sb30 := b30.size
   simp only [drew_size] at sb30
   replace hw := hw.trans (b30.mono hw.size)
   replace f4 := f4.u b30
   refine zp (o_lt rfl rfl) ?_
   refine wl_nild ?_
   refine rk_if rfl (fun h31 => ?_) (fun h31 => ?_)
   ·refine rk_region ?_
    refine zm rfl ?_
    refine zp (o_add rfl rfl (by omega) (by omega)) ?_
    refine za rfl (wl_nil ?_)
    refine rk_blk ?_
    exact rk_againf (Fr.le_of (by kernel_rfl) (by kernel_rfl) (by repeat' constructor)) ⟨h + 1, k, (h : Int) + 1, _, rfl, by omega, rfl, by omega, by omega, rfl, below_all hs (by omega) (by rw [hg]; exact h31), h2, f4, by first | omega | (simp only [drew_size]; omega), hw⟩ (by omega)
   ·refine rk_region ?_
    refine zm rfl (za rfl (wl_nil ?_))
    refine rk_blk ?_
    exact rk_againf (Fr.le_of (by kernel_rfl) (by kernel_rfl) (by repeat' constructor)) ⟨i, h, _, _, rfl, rfl, rfl, by omega, by omega, rfl, h1, above_all hs (by omega) (by rw [hg]; omega), f4, by first | omega | (simp only [drew_size]; omega), hw⟩ (by omega)
  ·refine rk_exit rfl ?_
   obtain rfl : i = k := by omega
   exact rk_tof hj (Fr.le_of (by kernel_rfl) (by kernel_rfl) (by repeat' constructor)) ⟨i, _, rfl, rfl, by omega, h1, h2, f4, by first | omega | (simp only [drew_size]; omega), hw⟩
 clear hw f4
 rintro fr w2 ⟨i, v, rfl, rfl, hi, h1, h2, f4, hsz, hw⟩
 have shw := hw.size
 rw [low_eq (by omega) h1 h2]
 have hhas := has_eq hs h1 h2
 first | refine zf ?_ | refine zg ?_
 by_cases hil : i < I.length
 ·have hg := hLg i hil
  refine rk_seq ?_
  refine rk_draw (id := 8) (none) [0, 0, 0, 6, 8, 16, 16, 16, 208, 272, 16, 1584, 2064, 4112, 2049, 32767] [0, 0, 0, 6, 14, 30, 30, 30, 222, 478, 30, 2046, 4094, 8190, 4095, 32767] 2048 0 [(.p, 0), (.p, 1), (.p, 2), (.p, 3), (.p, 4), (.p, 5), (.p, 6), (.p, 7), (.p, 8), (.r, 9), (.r, 10), (.l, 11), (.p, 12), (.p, 13), (.p, 14), (.p, 15)] (by kernel_rfl) (by kernel_rfl) (by kernel_rfl) (by kernel_rfl) (by kernel_rfl) ?_
  replace hw := hw.drew
  replace f4 := f4.d
  refine zm rfl (zm rfl (zm rfl ?_))
  refine zp (o_lt rfl rfl) ?_
  refine zm rfl ?_
  refine wl_know 39 true rfl (decide_eq_true (by omega)) ?_
  refine zm rfl (zm rfl (zm rfl ?_))
  refine zp (o_iaddrA (i) Tryz.underlying29 Tryz.sizeOf42 rfl rfl rfl (hA.some_ (by omega)) (by omega)) ?_
  refine wl_r (o_ldKs rfl hA hw (by omega)) ?_
  refine wl_r (o_ldKyB rfl f4) ?_
  refine wl_callf (xs := [_, _]) (cs := []) rfl rfl (C_opsCompare _) ?_
  rintro _ w46 ⟨rfl, b46⟩
  have sb46 := b46.size
  simp only [drew_size] at sb46
  replace hw := hw.trans (b46.mono hw.size)
  replace f4 := f4.u b46
  refine zp (o_eq rfl rfl) ?_
  refine zp (o_pick_t rfl rfl) ?_
  refine za rfl (za rfl ?_)
  refine wl_nild ?_
  refine ret2 rfl rfl rfl ?_
  refine ⟨?_, hw⟩
  rw [decide_eq_decide.2 (show cmpL I[i].1 u.1 = 0 ↔ u.1 ∈ L by rw [hhas, ← hg]; exact ⟨fun h => ⟨by omega, h⟩, fun h => h.2⟩)]
 ·refine rk_seq ?_
  refine rk_draw (id := 8) (none) [0, 0, 0, 6, 8, 16, 16, 16, 208, 272, 16, 1584, 2064, 4112, 2049, 32767] [0, 0, 0, 6, 14, 30, 30, 30, 222, 478, 30, 2046, 4094, 8190, 4095, 32767] 2048 0 [(.p, 0), (.p, 1), (.p, 2), (.p, 3), (.p, 4), (.p, 5), (.p, 6), (.p, 7), (.p, 8), (.r, 9), (.r, 10), (.l, 11), (.p, 12), (.p, 13), (.p, 14), (.p, 15)] (by kernel_rfl) (by kernel_rfl) (by kernel_rfl) (by kernel_rfl) (by kernel_rfl) ?_
  replace hw := hw.drew
  replace f4 := f4.d
  refine zm rfl (zm rfl (zm rfl ?_))
  refine zp (o_lt rfl rfl) ?_
  refine zm rfl ?_
  refine wl_know 39 false rfl (decide_eq_false (by omega)) ?_
  refine wl_off (wl_off (wl_off (wl_off (wl_off (wl_off (wl_off (wl_off ?_)))))))
  refine zp (o_pick_f rfl rfl) ?_
  refine za rfl (za rfl ?_)
  refine wl_nild ?_
  refine ret2 rfl rfl rfl ?_
  refine ⟨?_, hw⟩
  rw [decide_eq_false (show ¬ u.1 ∈ L by rw [hhas]; exact fun h => hil (by have := h.1; omega))]
end Go.Proofs.YtahkeoegbjopfaaGreat
namespace Go.Proofs.YtahkeoegbjopfaaGreat
set_option maxRecDepth 100000
open Go.RowKit
section
variable {α : Type} {X : GoT α} {P : Program} {fn : Func} {F : Ending → World → Prop} {N : Nat} {ks : List K} {ops : Array Oper} {tg : Tags} {l : List Oper} {fr : Fr} {w : World} {ty t e : TypeId} {z : Value} {pos : String} {aft : Array Edge} {gd : Option (Nat × Bool)} {d n sz bytes c j q lo hi : Nat} {x y : Operand} {A B : Option Addr} {L M : List α}
theorem wl_appSR (T : RowT P t e z X.sz bytes) (hx : fr.ev x = some (.slice A n c)) (hown : OwnS X e w lo hi A c L) (hn : n = L.length) (hy : fr.ev y = some (.slice B j q)) (hr : ∃ ms, Reads w X.sz B M.length ms ∧ ∀ i (h : i < M.length), X.T w (part ms X.sz i) M[i]) (hj : j = M.length) (hne : e ∉ X.tys) (h1 : ∀ w cs a, X.T w cs a → ∀ u ∈ cs, u.oneCell' = true) (hlen : (L.length + M.length) * bytes ≤ 140737488355328) (hmx : L.length + M.length ≤ 1000000000) (hB : lo ≤ w.heap.size)
  (h : ∀ A' c' w', OwnS X e w' lo w'.heap.size A' c' (L ++ M) → Grew w w' e (blk A) → Below lo w w' → (blk A' = blk A ∨ blk A' = some w.heap.size) → WL P fn F N ks ops tg.tail l ((d, .slice A' (L ++ M).length c') :: fr) w')
  (ht : tg.loud = true := by rfl) (hg : onG ops fr gd = true := by rfl) (hd : Nat.blt d N = true := by rfl) (hq : tg.calm = false ∨ blk A = none ∨ blk A = tg.row := by exact .inl rfl) :
  WL P fn F N ks ops tg (⟨some d, .call { callee := .builtin .append, args := #[x, y], argTypes := #[t, t] }, ty, pos, aft, gd⟩ :: l) fr w := by
 subst hn; subst hj
 obtain ⟨xs, g1, g2⟩ := hown
 obtain ⟨ms, r1, r3⟩ := hr
 have hxl : xs.length = L.length * X.sz := g1.rd.1
 have hml : ms.length = M.length * X.sz := r1.1
 refine wl_appR T hx g1 hy r1 (fun u hu => ?_) (by simp only [maxLen]; omega) hlen hB (fun A' c' w' k1 k2 k3 k4 => ?_) ht hg hd hq
 ·obtain ⟨i, hi, rfl⟩ := List.getElem_of_mem hu
  have h0 := T.h0
  have hq : i / X.sz < M.length := (Nat.div_lt_iff_lt_mul h0).2 (by omega)
  refine h1 _ _ _ (r3 _ hq) _ (List.mem_of_getElem? (i := i % X.sz) ?_)
  rw [part_get (Nat.mod_lt _ h0), Nat.div_add_mod' i X.sz]
  exact List.getElem?_eq_getElem hi
 ·have e2 : (L ++ M).length = L.length + M.length := List.length_append
  rw [← e2] at k1 ⊢
  refine h A' c' w' ⟨_, k1, fun i hi => ?_⟩ k2 k3 k4
  rcases Nat.lt_or_ge i L.length with hl | hl
  ·rw [part_append_lt hxl hl, List.getElem_append_left hl]
   exact X.ty (g2 i hl) k2 hne
  ·rw [List.getElem_append_right hl]
   have hi2 : i - L.length < M.length := by rw [e2] at hi; omega
   have := X.ty (r3 _ hi2) k2 hne
   have e3 : part (xs ++ ms) X.sz i = part ms X.sz (i - L.length) := by
    unfold part
    rw [show i * X.sz = xs.length + (i - L.length) * X.sz by rw [hxl, ← Nat.add_mul]; congr 1; omega, ← List.drop_drop, List.drop_left]
   rw [e3]; exact this
end
section
variable {fn : Func} {F : Ending → World → Prop} {N : Nat} {ks : List K} {ops : Array Oper} {tg : Tags} {l : List Oper} {fr : Fr} {w w0 : World} {ty t' : TypeId} {pos : String} {aft : Array Edge} {gd : Option (Nat × Bool)} {k1 k2 : IntKind} {d n j q c lo hi : Nat} {x y : Operand} {A B : Option Addr} {S M : List Ky} {C : Int}
theorem wl_appKsR (hx : fr.ev x = some (.slice A n c)) (hown : OwnKs w lo hi A c S) (hn : n = S.length) (hy : fr.ev y = some (.slice B j q)) (hr : RKs w0 B M) (hb : Below w0.heap.size w0 w) (hj : j = M.length) (hlen : S.length + M.length ≤ 1000000) (hB : lo ≤ w.heap.size)
  (h : ∀ A' c' w', OwnKs w' lo w'.heap.size A' c' (S ++ M) → Grew w w' 42 (blk A) → Below lo w w' → WL Tryz.prog fn F N ks ops tg.tail l ((d, .slice A' (S ++ M).length c') :: fr) w')
  (ht : tg.loud = true := by rfl) (hg : onG ops fr gd = true := by rfl) (hd : Nat.blt d N = true := by rfl) (hq : tg.calm = false ∨ blk A = none ∨ blk A = tg.row := by exact .inl rfl) :
  WL Tryz.prog fn F N ks ops tg (⟨some d, .call { callee := .builtin .append, args := #[x, y], argTypes := #[29, 29] }, ty, pos, aft, gd⟩ :: l) fr w :=
 wl_appSR (X := gArr 32) Tryz.rowKs hx hown hn hy (hr.u hb) hj (by simp [gArr_tys]) gKey_one (by have := Nat.mul_le_mul_right 32 hlen; omega) (by omega) hB (fun A' c' w' h1 h2 h3 _ => h A' c' w' h1 h2 h3) ht hg hd hq
theorem wl_mkI (n : Nat) (hx : fr.ev x = some (.int k1 0)) (hy : fr.ev y = some (.int k2 C)) (hC : C = (n : Int)) (hn : n ≤ 1000000)
  (hk : ∀ A w', OwnI w' w.heap.size w'.heap.size A n [] → Below w.heap.size w w' → WL Tryz.prog fn F N ks ops tg.tail l ((d, .slice A 0 n) :: fr) w')
  (ht : tg.loud = true := by rfl) (hg : onG ops fr gd = true := by rfl) (hd : Nat.blt d N = true := by rfl) : WL Tryz.prog fn F N ks ops tg (⟨some d, .makeSlice 28 x y, ty, pos, aft, gd⟩ :: l) fr w := by
 subst hC
 obtain ⟨i, hi, hz, hs, hb⟩ := info_parts Tryz.rowItem.hi
 obtain ⟨w', hrun, r1, r2⟩ := run_make_own (P := Tryz.prog) w w.heap.size 28 94 i _ 2 Tryz.rowItem.ht hi hz hs k1 k2 n (by rw [hb]; omega) (by simp only [maxLen]; omega) (Nat.le_refl _)
 have hbl : Below w.heap.size w w' := (Below.refl _ _).grown r2 (Nat.le_refl _) (by simp)
 have ho : OwnI w' w.heap.size w'.heap.size (some ⟨w.heap.size, 0, none⟩) n [] := ⟨[], ⟨r1, fun b hb => (World.ownsRow.lt r1 b (by rw [blk_own]; exact hb)).2⟩, fun i h => absurd h (Nat.not_lt_zero _)⟩
 exact wl_v (fun a ha o ho _ => by simp [execOp, ho, ha.ev hx, ha.ev hy, hrun]) (hk _ w' ho hbl) ht hg hd (.inr (grown_of_below hbl _))
end
theorem C_find {A P : Option Addr} {I : List (By × By)} {p : By} {n c q e : Nat} (w : World) (hA : RI w A I) (hP : Rd w P p) (hn : n = I.length) (hq : q = p.length) (hl : I.length ≤ 4000000) (hl2 : p.length ≤ 4000000) (hL : LtI I) (hs : Srt (I.map Prod.fst)) :
  CallsR Tryz.prog 48 [.slice A n c, .slice P q e] w fun v w' => v = .tuple #[.int .i64 (low (I.map Prod.fst) p : Nat), .bool (decide (p ∈ I.map Prod.fst))] ∧ Below w.heap.size w w' := by
 subst hn; subst hq
 refine callsR Tryz.func48 rfl rfl (by kernel_rfl) rfl ?_
 have hw := Below.refl w.heap.size w
 refine zs (za rfl (za rfl (wl_nil (zs (zm rfl (zm rfl ?_))))))
 refine wl_call rfl (C_bsI _ hA hP rfl (by omega) rfl (by omega) (by omega) (by omega)) ?_
 rintro v8 w8 ⟨rfl, b8⟩
 have s8 := b8.size
 replace hw := hw.trans (b8.mono hw.size)
 refine zp (o_ext20 rfl) ?_
 refine zp (o_ext21 rfl) ?_
 refine za rfl (za rfl (wl_nil ?_))
 refine ret2 rfl rfl rfl ?_
 exact ⟨rfl, hw⟩
set_option maxRecDepth 100000 in
theorem C_sClone {A : Option Addr} {p : By} {n c : Nat} (w : World) (hp : Rd w A p) (hn : n = p.length) (hl : p.length ≤ 4000000000) :
  CallsR Tryz.prog 49 [.slice A n c] w fun v w' => ∃ A' c', v = .slice A' p.length c' ∧ OwnH w' w.heap.size w'.heap.size A' c' p ∧ Below w.heap.size w w' := by
 subst hn
 rcases A with _ | ad
 ·obtain rfl : p = [] := by
   rcases p with _ | ⟨a, p⟩
   ·rfl
   ·obtain ⟨_, _, e, _⟩ := hp.2 (by simp [B8]); cases e
  refine callsR Tryz.func49 rfl rfl (by kernel_rfl) rfl ?_
  have hw := Below.refl w.heap.size w
  refine zs (za rfl (wl_nil (rk_seq (zs (zm rfl ?_)))))
  refine zp (o_sleqN Tryz.underlying39 rfl rfl) ?_
  refine wl_nil ?_
  refine rk_true rfl ?_
  refine zs (za rfl (wl_nil ?_))
  refine ret1 rfl rfl ?_
  exact ⟨none, 0, rfl, OwnH.nil_, hw⟩
 ·refine callsR Tryz.func49 rfl rfl (by kernel_rfl) rfl ?_
  have hw := Below.refl w.heap.size w
  refine zs (za rfl (wl_nil (rk_seq (zs (zm rfl ?_)))))
  refine zp (o_sleqN Tryz.underlying39 rfl rfl) ?_
  refine wl_nil ?_
  refine rk_false rfl ?_
  refine rk_skip (zs ?_)
  refine wl_litB [] Tryz.u8 Tryz.sizeOf5 Tryz.zeroValue5 (by rfl) rfl rfl (by rfl) (by rfl) (by rfl) ?_
  rintro A5 w5 f5 b5
  have qf5 := f5.cap
  have s5 := b5.size
  replace hw := hw.trans (b5.mono hw.size)
  refine zm rfl ?_
  refine wl_appB Tryz.u8 rfl f5 (by rfl) rfl (hp.u hw) rfl (by omega) hw.size ?_
  rintro A7 c7 w7 f7 g7 b7 i7
  have qf7 := f7.cap
  have s7 := g7.size
  replace hw := hw.trans (b7.mono (by omega))
  clear f5
  refine za rfl (wl_nil ?_)
  rw [List.nil_append] at f7 ⊢
  refine ret1 rfl rfl ?_
  exact ⟨_, _, rfl, f7, hw⟩
set_option maxRecDepth 100000 in
theorem C_kClone {A : Option Addr} {L : List Ky} {n c : Nat} (w : World) (hp : RKs w A L) (hn : n = L.length) (hl : L.length ≤ 400000) :
  CallsR Tryz.prog 65 [.slice A n c] w fun v w' => ∃ A' c', v = .slice A' L.length c' ∧ OwnKs w' w.heap.size w'.heap.size A' c' L ∧ Below w.heap.size w w' := by
 subst hn
 rcases A with _ | ad
 ·obtain rfl : L = [] := by
   rcases L with _ | ⟨a, L⟩
   ·rfl
   ·have := hp.some_ (by simp); cases this
  refine callsR Tryz.func65 rfl rfl (by kernel_rfl) rfl ?_
  have hw := Below.refl w.heap.size w
  refine zs (za rfl (wl_nil (rk_seq (zs (zm rfl ?_)))))
  refine zp (o_sleqN Tryz.underlying29 rfl rfl) ?_
  refine wl_nil ?_
  refine rk_true rfl ?_
  refine zs (za rfl (wl_nil ?_))
  refine ret1 rfl rfl ?_
  exact ⟨none, 0, rfl, OwnKs.nil_, hw⟩
 ·refine callsR Tryz.func65 rfl rfl (by kernel_rfl) rfl ?_
  have hw := Below.refl w.heap.size w
  refine zs (za rfl (wl_nil (rk_seq (zs (zm rfl ?_)))))
  refine zp (o_sleqN Tryz.underlying29 rfl rfl) ?_
  refine wl_nil ?_
  refine rk_false rfl ?_
  refine rk_skip (zs ?_)
  refine wl_litKs0 (by rfl) rfl (by rfl) ?_
  rintro A5 w5 f5 b5
  have qf5 := f5.cap
  have s5 := b5.size
  replace hw := hw.trans (b5.mono hw.size)
  refine zm rfl ?_
  refine wl_appKsR rfl f5 (by rfl) rfl hp hw rfl (by omega) hw.size ?_
  rintro A7 c7 w7 f7 g7 b7
  have qf7 := f7.cap
  have s7 := g7.size
  replace hw := hw.trans (b7.mono (by omega))
  clear f5
  refine za rfl (wl_nil ?_)
  rw [List.nil_append] at f7 ⊢
  refine ret1 rfl rfl ?_
  exact ⟨_, _, rfl, f7, hw⟩
set_option maxRecDepth 100000 in
theorem C_clone {A B C : Option Addr} {I : List (By × By)} {X Y : List Ky} {n c m d q e : Nat} (w : World) (hA : RI w A I) (hB : RKs w B X) (hC : RKs w C Y) (hn : n = I.length) (hm : m = X.length) (hq : q = Y.length) (hl : I.length ≤ 400000) (hl2 : X.length ≤ 400000) (hl3 : Y.length ≤ 400000) (hL : LtI I) :
  CallsR Tryz.prog 36 [.agg #[.slice A n c, .slice B m d, .slice C q e]] w fun v w' => ∃ A' c' B' d' C' e' m1 m2, v = .agg #[.slice A' I.length c', .slice B' X.length d', .slice C' Y.length e'] ∧ OwnI w' w.heap.size m1 A' c' I ∧ OwnKs w' m1 m2 B' d' X ∧ OwnKs w' m2 w'.heap.size C' e' Y ∧ w.heap.size ≤ m1 ∧ m1 ≤ m2 ∧ m2 ≤ w'.heap.size ∧ Below w.heap.size w w' := by
 subst hn; subst hm; subst hq
 refine callsR Tryz.func36 rfl rfl (by kernel_rfl) rfl ?_
 have hw := Below.refl w.heap.size w
 refine zs ?_
 refine wl_boxg [_, _, _] rfl (by rfl) ?_
 rintro g1 w1 f1 b1 i1 i1_1
 have s1 := b1.size
 replace hw := hw.trans (b1.mono hw.size)
 refine wl_allocg [_, _, _] Tryz.zeroValue31 (by rfl) ?_
 rintro g2 w2 f2 b2 i2 i2_1
 have s2 := b2.size
 replace hw := hw.trans (b2.mono hw.size)
 replace f1 := f1.u b2
 refine wl_nil (zs ?_)
 refine zp (o_faddr (s := 31) (i := 0) (off := 0) Tryz.underlying31 rfl Tryz.sizeOf28 rfl rfl rfl) ?_
 refine wl_r (o_loadbg Tryz.isAgg28 rfl f1 (by rfl)) ?_
 refine zp (o_len (t := 28) Tryz.underlying28 rfl) ?_
 refine wl_mkI (I.length) rfl rfl rfl (by omega) ?_
 rintro A9 w9 f9 b9
 have qf9 := f9.cap
 have s9 := b9.size
 replace hw := hw.trans (b9.mono hw.size)
 replace f1 := f1.u b9
 replace f2 := f2.u b9
 refine za rfl (wl_nil (rk_seq (zs ?_)))
 refine zp (o_faddr (s := 31) (i := 0) (off := 0) Tryz.underlying31 rfl Tryz.sizeOf28 rfl rfl rfl) ?_
 refine wl_r (o_loadbg Tryz.isAgg28 rfl f1 (by rfl)) ?_
 refine zp (o_len (t := 28) Tryz.underlying28 rfl) ?_
 refine zm rfl (wl_nil (rk_block ?_))
 refine rk_joinf (fun fb fr w3 => ∃ A' c', fr = [(3, .slice A' I.length c')] ++ fb.drop 1 ∧ OwnI w3 w.heap.size w3.heap.size A' c' I ∧ Blk w3 g1 31 [.slice A I.length c, .slice B X.length d, .slice C Y.length e] ∧ Blk w3 g2 31 [.slice none 0 0, .slice none 0 0, .slice none 0 0] ∧ w9.heap.size ≤ w3.heap.size ∧ Below w.heap.size w w3) ?_ (fun ks hj => ?_)
 rotate_left
 ·refine rk_loopf (fun fb k fr w3 => ∃ (i : Nat) (v : Int) (A' : Option Addr) (c' : Nat) (J : List (By × By)), fr = [(13, .int .i64 v), (3, .slice A' J.length c')] ++ fb.drop 1 ∧ v = i ∧ i ≤ I.length ∧ k = I.length - i ∧ J = I.take i ∧ OwnI w3 w.heap.size w3.heap.size A' c' J ∧ Blk w3 g1 31 [.slice A I.length c, .slice B X.length d, .slice C Y.length e] ∧ Blk w3 g2 31 [.slice none 0 0, .slice none 0 0, .slice none 0 0] ∧ w9.heap.size ≤ w3.heap.size ∧ Below w.heap.size w w3) (n := I.length) (Fr.le_of (by kernel_rfl) (by kernel_rfl) (by repeat' constructor)) ⟨0, _, A9, _, [], rfl, rfl, by omega, rfl, rfl, f9.base (by omega) (Nat.le_refl _), f1, f2, Nat.le_refl _, hw⟩ ?_
  clear hw f9 f1 f2
  rintro k fr w3 ⟨i, v, A', c', J, rfl, rfl, hi, rfl, hJ, fo, f1, f2, hsz, hw⟩
  have shw := hw.size
  have hJl : J.length = i := by rw [hJ, List.length_take]; omega
  first | refine zf ?_ | refine zg ?_
  refine zs ?_
  refine zp (o_lt rfl rfl) ?_
  refine wl_nil (rk_seq ?_)
  refine rk_if rfl (fun h14 => ?_) (fun h14 => ?_)
  ·have hil : i < I.length := by omega
   obtain ⟨n1, n2⟩ := hL _ (List.getElem_mem hil)
   refine rk_skip (rk_seq (rk_block (zs ?_)))
   refine zp (o_iaddrA (i) Tryz.underlying28 Tryz.sizeOf94 rfl rfl rfl (hA.some_ (by omega)) (by omega)) ?_
   refine wl_ldItem rfl hA hw (by omega) ?_
   rintro A116 c116 A216 c216 f16 f16_1 i16 i16_1
   refine wl_allocg [_, _] Tryz.zeroValue94 (by rfl) ?_
   rintro g5 w5 f5 b5 i5 i5_1
   have s5 := b5.size
   replace hw := hw.trans (b5.mono hw.size)
   replace f2 := f2.u b5
   replace f1 := f1.u b5
   replace fo := fo.u b5
   refine wl_storega Tryz.sizeOf94 rfl rfl (by rfl) (oneCell_of (by rfl)) f5 (by rfl) ?_
   rintro w_1 f g e_1
   have s := g.size
   replace hw := hw.trans (below_of_grownBy g.g hw.size (by omega))
   replace fo := fo.q g (ap_some (by omega)) (by decide)
   replace f1 := f1.k g.g (ap_some (by omega))
   replace f2 := f2.k g.g (ap_some (by omega))
   clear f5
   refine wl_nil ?_
   refine rk_drawo (id := 5) (none) [0, 0, 2, 4, 0, 16, 40, 72, 128, 321, 1023] [0, 0, 2, 6, 0, 16, 62, 126, 254, 511, 1023] 840 8 [0, 1, 2, 4, 5, 3, 6, 7, 8, 9, 10] [(.p, 0), (.p, 1), (.r, 2), (.p, 4), (.s, 5), (.c, 3), (.l, 6), (.p, 7), (.l, 8), (.l, 9), (.p, 10)] (by kernel_rfl) (by kernel_rfl) (by kernel_rfl) (by kernel_rfl) (by kernel_rfl) ?_
   dsimp only [inOrder, nthOp]
   replace hw := hw.drew
   replace f2 := f2.d
   replace f1 := f1.d
   replace fo := fo.d
   replace f := f.d
   refine zm rfl ?_
   refine zp (o_faddr (s := 94) (i := 0) (off := 0) Tryz.underlying94 rfl Tryz.sizeOf39 rfl rfl rfl) ?_
   refine wl_r (o_loadbg Tryz.isAgg39 rfl f (by rfl)) ?_
   refine zp (o_faddr (s := 94) (i := 1) (off := 1) Tryz.underlying94 rfl Tryz.sizeOf39 rfl rfl rfl) ?_
   refine wl_s (fun _ hk => (o_loadbg Tryz.isAgg39 rfl (f.u (below_of_grown_none hk)) (by rfl))) ?_
   refine wl_call rfl (C_bClone _ (f16.u hw) rfl (by omega)) ?_ (hq := .inr fun _ _ h => grown_of_below h.choose_spec.choose_spec.2.2 _)
   rintro v20 w20 ⟨A20, ⟨c20, ⟨rfl, ⟨f20, b20⟩⟩⟩⟩
   simp only [drew_size] at f20
   simp only [drew_size] at b20
   have qf20 := f20.cap
   have s20 := b20.size
   simp only [drew_size] at s20
   replace hw := hw.trans (b20.mono hw.size)
   replace f := f.u b20
   replace fo := fo.u b20
   replace f1 := f1.u b20
   replace f2 := f2.u b20
   refine wl_call rfl (C_bClone _ (f16_1.u hw) rfl (by omega)) ?_
   rintro v23 w23 ⟨A23, ⟨c23, ⟨rfl, ⟨f23, b23⟩⟩⟩⟩
   have qf23 := f23.cap
   have s23 := b23.size
   replace hw := hw.trans (b23.mono hw.size)
   replace f2 := f2.u b23
   replace f1 := f1.u b23
   replace fo := fo.u b23
   replace f := f.u b23
   replace f20 := f20.u b23
   refine zp (o_buildg [_, _] Tryz.underlying94 Tryz.zeroValue94 (by rfl) (by rfl) rfl (by rfl) (by rfl) (fun _ => by kernel_rfl)) ?_
   have m1 := own_max f20
   have m2 := own_max f23
   refine wl_litItm (by rfl) rfl f20.to_RdT f23.to_RdT rfl rfl (by omega) (by omega) (by omega) (by omega) (by rfl) ?_
   rintro A25 w25 f25 b25
   have qf25 := f25.cap
   have s25 := b25.size
   replace hw := hw.trans (b25.mono hw.size)
   replace f20 := f20.u b25
   replace f := f.u b25
   replace fo := fo.u b25
   replace f1 := f1.u b25
   replace f2 := f2.u b25
   replace f23 := f23.u b25
   refine wl_appItm rfl fo rfl rfl f25.to_RIT (by rfl) (by omega) hw.size ?_
   rintro A26 c26 w26 f26 g26 b26
   have qf26 := f26.cap
   have s26 := g26.size
   replace hw := hw.trans (b26.mono (by omega))
   replace f23 := f23.y g26 (by decide)
   replace f2 := f2.y g26 (by decide)
   replace f1 := f1.y g26 (by decide)
   replace f := f.k g26.g (fo.ap (by omega))
   replace f20 := f20.y g26 (by decide)
   replace f25 := f25.q g26 (fo.ap (by omega)) (by decide)
   clear fo
   refine za rfl ?_
   refine wl_nild ?_
   refine rk_blk ?_
   refine rk_region ?_
   refine zp (o_add rfl rfl (by omega) (by omega)) ?_
   refine zm rfl (wl_nil ?_)
   exact rk_againf (Fr.le_of (by kernel_rfl) (by kernel_rfl) (by repeat' constructor)) ⟨i + 1, (i : Int) + 1, A26, c26, J ++ [(I[i].1, I[i].2)], rfl, by omega, by omega, rfl, by rw [hJ, List.take_succ_eq_append_getElem hil], f26.base (Nat.le_refl _) (by omega), f1, f2, by omega, hw⟩ (by omega)
  ·refine rk_exit rfl ?_
   obtain rfl : i = I.length := by omega
   rw [List.take_length] at hJ
   subst hJ
   exact rk_tof hj (Fr.le_of (by kernel_rfl) (by kernel_rfl) (by repeat' constructor)) ⟨A', c', rfl, fo, f1, f2, hsz, hw⟩
 clear hw f9 f1 f2
 rintro fr w3 ⟨A', c', rfl, fo, f1, f2, hsz, hw⟩
 have shw := hw.size
 first | refine zf ?_ | refine zg ?_
 refine rk_seq ?_
 refine rk_drawo (id := 7) (none) [0, 0, 2, 4, 0, 16, 40, 73, 255] [0, 0, 2, 6, 0, 16, 62, 127, 255] 328 8 [0, 1, 2, 4, 5, 3, 6, 7, 8] [(.p, 0), (.p, 1), (.r, 2), (.p, 4), (.s, 5), (.c, 3), (.l, 6), (.p, 7), (.l, 8)] (by kernel_rfl) (by kernel_rfl) (by kernel_rfl) (by kernel_rfl) (by kernel_rfl) ?_
 dsimp only [inOrder, nthOp]
 replace hw := hw.drew
 replace f2 := f2.d
 replace f1 := f1.d
 replace fo := fo.d
 refine zm rfl ?_
 refine zp (o_faddr (s := 31) (i := 1) (off := 1) Tryz.underlying31 rfl Tryz.sizeOf29 rfl rfl rfl) ?_
 refine wl_r (o_loadbg Tryz.isAgg29 rfl f1 (by rfl)) ?_
 refine zp (o_faddr (s := 31) (i := 2) (off := 2) Tryz.underlying31 rfl Tryz.sizeOf29 rfl rfl rfl) ?_
 refine wl_s (fun _ hk => (o_loadbg Tryz.isAgg29 rfl (f1.u (below_of_grown_none hk)) (by rfl))) ?_
 refine wl_call rfl (C_kClone _ (hB.u hw) rfl (by omega)) ?_ (hq := .inr fun _ _ h => grown_of_below h.choose_spec.choose_spec.2.2 _)
 rintro v31 w31 ⟨A31, ⟨c31, ⟨rfl, ⟨f31, b31⟩⟩⟩⟩
 simp only [drew_size] at f31
 simp only [drew_size] at b31
 have qf31 := f31.cap
 have s31 := b31.size
 simp only [drew_size] at s31
 replace hw := hw.trans (b31.mono hw.size)
 replace fo := fo.u b31
 replace f1 := f1.u b31
 replace f2 := f2.u b31
 refine wl_call rfl (C_kClone _ (hC.u hw) rfl (by omega)) ?_
 rintro v34 w34 ⟨A34, ⟨c34, ⟨rfl, ⟨f34, b34⟩⟩⟩⟩
 have qf34 := f34.cap
 have s34 := b34.size
 replace hw := hw.trans (b34.mono hw.size)
 replace f2 := f2.u b34
 replace f1 := f1.u b34
 replace fo := fo.u b34
 replace f31 := f31.u b34
 refine zp (o_buildg [_, _, _] Tryz.underlying31 Tryz.zeroValue31 (by rfl) (by rfl) rfl (by rfl) (by rfl) (fun _ => by kernel_rfl)) ?_
 refine wl_storega Tryz.sizeOf31 rfl rfl (by rfl) (oneCell_of (by rfl)) f2 (by rfl) ?_
 rintro w_1 f g e_1
 have s := g.size
 replace hw := hw.trans (below_of_grownBy g.g hw.size (by omega))
 replace f31 := f31.y g (by decide)
 replace fo := fo.y g (by decide)
 replace f1 := f1.k g.g (ap_some (by omega))
 replace f34 := f34.y g (by decide)
 clear f2
 refine wl_nild ?_
 refine ret_cell rfl rfl Tryz.isAgg31 Tryz.sizeOf31 (by assumption) rfl ?_
 exact ⟨A', c', A31, c31, A34, c34, w3.heap.size, w31.heap.size, rfl, fo, f31, f34.base (Nat.le_refl _) (by omega), by omega, by omega, by omega, hw⟩
def valI (I : List (By × By)) (p : By) : By := ((I[low (I.map Prod.fst) p]?).map Prod.snd).getD []
def getS (I : List (By × By)) (X Y : List Ky) (p : By) : By × Bool := if OkSt I X Y ∧ p ∈ I.map Prod.fst then (valI I p, true) else ([], false)
theorem OkI.srt {I : List (By × By)} (h : OkI I) : Srt (I.map Prod.fst) := fun i hi h0 => by
 rw [List.length_map] at hi
 rw [List.getElem_map, List.getElem_map]
 exact (h i hi).2 h0
theorem mem_low {I : List (By × By)} {p : By} (hs : Srt (I.map Prod.fst)) (h : p ∈ I.map Prod.fst) : ∃ hl : low (I.map Prod.fst) p < I.length, I[low (I.map Prod.fst) p].1 = p := by
 obtain ⟨j, hj, e⟩ := List.getElem_of_mem h
 have hlow : low (I.map Prod.fst) p = j := by
  refine low_eq (Nat.le_of_lt hj) (fun q hq hqj => ?_) (fun q hq hqj => ?_)
  ·rw [← e]; exact cmpL_chain hs j q hj hqj
  ·rw [← e]
   rcases Nat.lt_or_eq_of_le hqj with h1 | h1
   ·have h2 := cmpL_chain hs q j hq h1
    have h3 := cmpL_neg (I.map Prod.fst)[q] (I.map Prod.fst)[j]
    omega
   ·subst h1; rw [cmpL_self]; exact Int.le_refl _
 rw [List.length_map] at hj
 rw [List.getElem_map] at e
 rw [hlow]
 exact ⟨hj, e⟩
set_option maxRecDepth 100000 in
theorem C_get {A B C P : Option Addr} {I : List (By × By)} {X Y : List Ky} {p : By} {r : By × Bool} {n c m d q e z f : Nat} (w : World) (hA : RI w A I) (hB : RKs w B X) (hC : RKs w C Y) (hP : Rd w P p) (hr : getS I X Y p = r) (hn : n = I.length) (hm : m = X.length) (hq : q = Y.length) (hz : z = p.length) (hl : I.length ≤ 400000) (hl2 : X.length ≤ 400000) (hl3 : Y.length ≤ 400000) (hL : LtI I) (hp : p.length ≤ 4000000) :
  CallsR Tryz.prog 19 [.agg #[.slice A n c, .slice B m d, .slice C q e], .slice P z f] w fun v w' => ∃ A' c', v = .tuple #[.slice A' r.1.length c', .bool r.2] ∧ OwnH w' w.heap.size w'.heap.size A' c' r.1 ∧ Below w.heap.size w w' := by
 subst hn; subst hm; subst hq; subst hz
 unfold getS at hr
 refine callsR Tryz.func19 rfl rfl (by kernel_rfl) rfl ?_
 have hw := Below.refl w.heap.size w
 by_cases h1 : OkSt I X Y
 ·have hs := h1.2.2.1.srt
  by_cases h2 : p ∈ I.map Prod.fst
  ·rw [if_pos ⟨h1, h2⟩] at hr
   subst hr
   obtain ⟨hk, e1⟩ := mem_low hs h2
   have e2 : valI I p = I[low (I.map Prod.fst) p].2 := by unfold valI; rw [List.getElem?_eq_getElem hk]; rfl
   rw [e2]
   have n2 := hL _ (List.getElem_mem hk)
   refine zs ?_
   refine wl_boxg [_, _, _] rfl (by rfl) ?_
   rintro g2 w2 f2 b2 i2 i2_1
   have s2 := b2.size
   replace hw := hw.trans (b2.mono hw.size)
   refine za rfl (za rfl (wl_nil (rk_seq (zs ?_))))
   refine wl_r (o_loadag Tryz.isAgg31 Tryz.sizeOf31 rfl f2 (by rfl)) ?_
   refine wl_call rfl (C_checkStateOk _ (hA.u hw) (hB.u hw) (hC.u hw) rfl rfl rfl (by omega) (by omega) (by omega) (by omega) (by omega)) ?_
   rintro v9 w9 ⟨rfl, b9⟩
   have s9 := b9.size
   replace hw := hw.trans (b9.mono hw.size)
   replace f2 := f2.u b9
   refine zp (o_ne rfl rfl) ?_
   refine wl_nil ?_
   refine rk_false rfl ?_
   refine rk_skip (zs ?_)
   refine zp (o_faddr (s := 31) (i := 0) (off := 0) Tryz.underlying31 rfl Tryz.sizeOf28 rfl rfl rfl) ?_
   refine wl_r (o_loadbg Tryz.isAgg28 rfl f2 (by rfl)) ?_
   refine zm rfl ?_
   refine wl_call rfl (C_find _ (hA.u hw) (hP.u hw) rfl rfl (by omega) (by omega) (by omega) (by omega)) ?_
   rintro v15 w15 ⟨rfl, b15⟩
   have s15 := b15.size
   replace hw := hw.trans (b15.mono hw.size)
   replace f2 := f2.u b15
   refine zm rfl ?_
   refine zp (o_ext20 rfl) ?_
   refine zp (o_ext21 rfl) ?_
   refine za rfl (za rfl (wl_nil (rk_seq (zs (zm rfl ?_)))))
   refine zp (o_not rfl) ?_
   refine wl_nil ?_
   rw [decide_eq_true h2]
   refine rk_false rfl ?_
   refine rk_skip (zs ?_)
   refine zp (o_faddr (s := 31) (i := 0) (off := 0) Tryz.underlying31 rfl Tryz.sizeOf28 rfl rfl rfl) ?_
   refine wl_r (o_loadbg Tryz.isAgg28 rfl f2 (by rfl)) ?_
   refine zm rfl ?_
   refine zp (o_iaddrA (low (List.map Prod.fst I) p) Tryz.underlying28 Tryz.sizeOf94 rfl rfl rfl (hA.some_ (by omega)) (by omega)) ?_
   refine zp (o_faddrR rfl Tryz.underlying94 (by rfl) Tryz.sizeOf39 (by rfl) (by rfl)) ?_
   refine wl_ldVal rfl hA hw (by omega) ?_
   rintro A125 c125 f25 i25
   refine wl_call rfl (C_sClone _ (f25.u hw) rfl (by omega)) ?_
   rintro v26 w26 ⟨A26, ⟨c26, ⟨rfl, ⟨f26, b26⟩⟩⟩⟩
   have qf26 := f26.cap
   have s26 := b26.size
   replace hw := hw.trans (b26.mono hw.size)
   replace f2 := f2.u b26
   refine za rfl (za rfl (wl_nil ?_))
   refine ret2 rfl rfl rfl ?_
   exact ⟨_, _, rfl, f26.base (by omega) (Nat.le_refl _), hw⟩
  ·rw [if_neg (fun h => h2 h.2)] at hr
   subst hr
   refine zs ?_
   refine wl_boxg [_, _, _] rfl (by rfl) ?_
   rintro g2 w2 f2 b2 i2 i2_1
   have s2 := b2.size
   replace hw := hw.trans (b2.mono hw.size)
   refine za rfl (za rfl (wl_nil (rk_seq (zs ?_))))
   refine wl_r (o_loadag Tryz.isAgg31 Tryz.sizeOf31 rfl f2 (by rfl)) ?_
   refine wl_call rfl (C_checkStateOk _ (hA.u hw) (hB.u hw) (hC.u hw) rfl rfl rfl (by omega) (by omega) (by omega) (by omega) (by omega)) ?_
   rintro v9 w9 ⟨rfl, b9⟩
   have s9 := b9.size
   replace hw := hw.trans (b9.mono hw.size)
   replace f2 := f2.u b9
   refine zp (o_ne rfl rfl) ?_
   refine wl_nil ?_
   refine rk_false rfl ?_
   refine rk_skip (zs ?_)
   refine zp (o_faddr (s := 31) (i := 0) (off := 0) Tryz.underlying31 rfl Tryz.sizeOf28 rfl rfl rfl) ?_
   refine wl_r (o_loadbg Tryz.isAgg28 rfl f2 (by rfl)) ?_
   refine zm rfl ?_
   refine wl_call rfl (C_find _ (hA.u hw) (hP.u hw) rfl rfl (by omega) (by omega) (by omega) (by omega)) ?_
   rintro v15 w15 ⟨rfl, b15⟩
   have s15 := b15.size
   replace hw := hw.trans (b15.mono hw.size)
   replace f2 := f2.u b15
   refine zm rfl ?_
   refine zp (o_ext20 rfl) ?_
   refine zp (o_ext21 rfl) ?_
   refine za rfl (za rfl (wl_nil (rk_seq (zs (zm rfl ?_)))))
   refine zp (o_not rfl) ?_
   refine wl_nil ?_
   rw [decide_eq_false h2]
   refine rk_true rfl ?_
   refine zs (za rfl (za rfl (wl_nil ?_)))
   refine ret2 rfl rfl rfl ?_
   exact ⟨_, _, rfl, OwnH.nil_, hw⟩
 ·rw [if_neg (fun h => h1 h.1)] at hr
  subst hr
  refine zs ?_
  refine wl_boxg [_, _, _] rfl (by rfl) ?_
  rintro g2 w2 f2 b2 i2 i2_1
  have s2 := b2.size
  replace hw := hw.trans (b2.mono hw.size)
  refine za rfl (za rfl (wl_nil (rk_seq (zs ?_))))
  refine wl_r (o_loadag Tryz.isAgg31 Tryz.sizeOf31 rfl f2 (by rfl)) ?_
  refine wl_call rfl (C_checkStateBad _ (hA.u hw) (hB.u hw) (hC.u hw) rfl rfl rfl (by omega) (by omega) (by omega) (by omega) (by omega)) ?_
  rintro v9 w9 ⟨rfl, b9⟩
  have s9 := b9.size
  replace hw := hw.trans (b9.mono hw.size)
  replace f2 := f2.u b9
  refine zp (o_ne rfl rfl) ?_
  refine wl_nil ?_
  refine rk_true rfl ?_
  refine zs (za rfl (za rfl (wl_nil ?_)))
  refine ret2 rfl rfl rfl ?_
  exact ⟨_, _, rfl, OwnH.nil_, hw⟩
end Go.Proofs.YtahkeoegbjopfaaGreat
namespace Go.Proofs.YtahkeoegbjopfaaGreat
set_option maxRecDepth 100000
open Go.RowKit
structure Pts {α : Type} (X : GoT α) (w : World) (xs : List Value) (L : List α) : Prop where
 n : xs.length = L.length * X.sz
 t : ∀ q (h : q < L.length), X.T w (part xs X.sz q) L[q]
section
variable {α : Type} {X : GoT α} {w w' : World} {xs ms : List Value} {L M : List α} {e : TypeId} {row : Option Nat} {i : Nat}
theorem Pts.ty (h : Pts X w xs L) (hg : Grew w w' e row) (hne : e ∉ X.tys) : Pts X w' xs L := ⟨h.n, fun q hq => X.ty (h.t q hq) hg hne⟩
theorem Pts.append (h : Pts X w xs L) (k : Pts X w ms M) : Pts X w (xs ++ ms) (L ++ M) := by
 refine ⟨by rw [List.length_append, List.length_append, h.n, k.n, Nat.add_mul], fun q hq => ?_⟩
 rw [List.length_append] at hq
 rcases Nat.lt_or_ge q L.length with hl | hl
 ·rw [part_append_lt h.n hl, List.getElem_append_left hl]
  exact h.t q hl
 ·rw [List.getElem_append_right hl]
  have e3 : part (xs ++ ms) X.sz q = part ms X.sz (q - L.length) := by
   unfold part
   rw [show q * X.sz = xs.length + (q - L.length) * X.sz by rw [h.n, ← Nat.add_mul]; congr 1; omega, ← List.drop_drop, List.drop_left]
  rw [e3]
  exact k.t _ (by omega)
theorem Pts.take (h : Pts X w xs L) (hi : i ≤ L.length) : Pts X w (xs.take (i * X.sz)) (L.take i) := by
 have hl : (L.take i).length = i := by rw [List.length_take]; omega
 have hkx : i * X.sz ≤ L.length * X.sz := Nat.mul_le_mul_right _ hi
 refine ⟨by rw [List.length_take, h.n, hl, Nat.min_eq_left hkx], fun q hq => ?_⟩
 rw [hl] at hq
 rw [part_take hq, List.getElem_take]
 exact h.t q (by omega)
theorem Pts.drop (h : Pts X w xs L) (_hi : i ≤ L.length) : Pts X w (xs.drop (i * X.sz)) (L.drop i) := by
 refine ⟨by rw [List.length_drop, List.length_drop, h.n, Nat.sub_mul], fun q hq => ?_⟩
 rw [part_drop, List.getElem_drop]
 rw [List.length_drop] at hq
 exact h.t _ (by omega)
theorem Pts.one (h : Pts X w xs L) (h1 : ∀ w cs a, X.T w cs a → ∀ u ∈ cs, u.oneCell' = true) (h0 : 0 < X.sz) : ∀ u ∈ xs, u.oneCell' = true := fun u hu => by
 obtain ⟨i, hi, rfl⟩ := List.getElem_of_mem hu
 have hn := h.n
 have hq : i / X.sz < L.length := (Nat.div_lt_iff_lt_mul h0).2 (by omega)
 refine h1 _ _ _ (h.t _ hq) _ (List.mem_of_getElem? (i := i % X.sz) ?_)
 rw [part_get (Nat.mod_lt _ h0), Nat.div_add_mod' i X.sz]
 exact List.getElem?_eq_getElem hi
theorem OwnS.pts {lo hi c : Nat} {A : Option Addr} (h : OwnS X e w lo hi A c L) : ∃ xs, RowH w lo hi e X.sz A L.length c xs ∧ Pts X w xs L := by
 obtain ⟨xs, h1, h2⟩ := h
 exact ⟨xs, h1, h1.rd.1, h2⟩
theorem Pts.own {lo hi c : Nat} {A : Option Addr} (h : Pts X w xs L) (k : RowH w lo hi e X.sz A L.length c xs) : OwnS X e w lo hi A c L := ⟨xs, k, h.t⟩
end
section
variable {w : World} {lo hi sz n c g : Nat} {e : TypeId} {cur xs : List Value}
theorem row_of_blk (hB : Blk w g e cur) (h1 : lo ≤ g) (h2 : g < hi) (hc : cur.length = c * sz) (hn : n ≤ c) (hm : c ≤ maxLen) (hx : xs.length = n * sz) (ht : cur.take (n * sz) = xs) : RowH w lo hi e sz (some ⟨g, 0, none⟩) n c xs :=
 ⟨⟨hx, .inr ⟨g, c, cur.toArray, rfl, h1, hB, hn, hm, by rw [List.size_toArray, hc], ht⟩⟩, fun k hk => by
  have hk2 : g = k := by simpa [blk] using hk
  omega⟩
theorem row_max {A : Option Addr} (h : RowH w lo hi e sz A n c xs) : c ≤ maxLen := by
 rcases h.o.2 with ⟨hv, _⟩ | ⟨g, cap, cur, hv, _, _, _, hm, _⟩
 ·injection hv with _ _ e; subst e; simp only [maxLen]; omega
 ·injection hv with _ _ e
  subst e; exact hm
end
theorem src_blk {w : World} {g k n : Nat} {t : TypeId} {cur xs : List Value} (hB : Blk w g t cur) (ht : cur.take n = xs) : ∀ j v, (xs.drop k)[j]? = some v → w.cell? ((⟨g, k, none⟩ : Addr).add j) = some v := fun j v hj => by
 rw [add_plain, hB.cell]
 rw [List.getElem?_drop, ← ht] at hj
 rcases Nat.lt_or_ge (k + j) n with h | h
 ·rwa [List.getElem?_take_of_lt h] at hj
 ·rw [List.getElem?_eq_none (by rw [List.length_take]; omega)] at hj; cases hj
theorem ins_in {xs ms cur : List Value} {i n sz : Nat} (hi : i ≤ n) (hx : xs.length = n * sz) (hm : ms.length = sz) (hc : (n + 1) * sz ≤ cur.length) (ht : cur.take (n * sz) = xs) :
  (spl (spl cur ((i + 1) * sz) (xs.drop (i * sz))) (i * sz) ms).take ((n + 1) * sz) = xs.take (i * sz) ++ ms ++ xs.drop (i * sz) := by
 have h1 : i * sz ≤ n * sz := Nat.mul_le_mul_right _ hi
 rw [Nat.add_mul, Nat.one_mul] at hc ⊢
 rw [Nat.add_mul, Nat.one_mul]
 have hd : (xs.drop (i * sz)).length = n * sz - i * sz := by rw [List.length_drop, hx]
 have hs1 : (spl cur (i * sz + sz) (xs.drop (i * sz))).length = cur.length := spl_length (by rw [hd]; omega)
 apply List.ext_getElem?
 intro q
 rw [List.getElem?_take]
 by_cases hq : q < n * sz + sz
 ·rw [if_pos hq, getElem_spl (by rw [hs1]; omega), getElem_spl (by rw [hd]; omega)]
  have htl : (xs.take (i * sz)).length = i * sz := by rw [List.length_take]; omega
  rcases Nat.lt_or_ge q (i * sz) with h2 | h2
  ·rw [if_neg (by omega), if_neg (by omega), List.append_assoc, List.getElem?_append_left (by omega), List.getElem?_take_of_lt h2, ← ht, List.getElem?_take_of_lt (by omega)]
  ·rcases Nat.lt_or_ge q (i * sz + sz) with h3 | h3
   ·rw [if_pos (by omega), List.append_assoc, List.getElem?_append_right (by omega), htl, List.getElem?_append_left (by omega)]
   ·rw [if_neg (by omega), if_pos (by rw [hd]; omega), List.getElem?_append_right (by rw [List.length_append, htl]; omega), List.length_append, htl, hm]
 ·rw [if_neg hq, List.getElem?_eq_none]
  simp only [List.length_append, List.length_take, List.length_drop]
  omega
theorem ins_new {xs ms cur : List Value} {i n sz : Nat} (hi : i ≤ n) (hx : xs.length = n * sz) (hm : ms.length = sz) (hc : (n + 1) * sz ≤ cur.length) (ht : cur.take (i * sz) = xs.take (i * sz)) :
  (spl (spl cur (i * sz) ms) ((i + 1) * sz) (xs.drop (i * sz))).take ((n + 1) * sz) = xs.take (i * sz) ++ ms ++ xs.drop (i * sz) := by
 have h1 : i * sz ≤ n * sz := Nat.mul_le_mul_right _ hi
 rw [Nat.add_mul, Nat.one_mul] at hc ⊢
 rw [Nat.add_mul, Nat.one_mul]
 have hd : (xs.drop (i * sz)).length = n * sz - i * sz := by rw [List.length_drop, hx]
 have hs1 : (spl cur (i * sz) ms).length = cur.length := spl_length (by omega)
 apply List.ext_getElem?
 intro q
 rw [List.getElem?_take]
 by_cases hq : q < n * sz + sz
 ·rw [if_pos hq, getElem_spl (by rw [hs1, hd]; omega), getElem_spl (by omega)]
  have htl : (xs.take (i * sz)).length = i * sz := by rw [List.length_take]; omega
  rcases Nat.lt_or_ge q (i * sz) with h2 | h2
  ·rw [if_neg (by omega), if_neg (by omega), List.append_assoc, List.getElem?_append_left (by omega), ← ht, List.getElem?_take_of_lt h2]
  ·rcases Nat.lt_or_ge q (i * sz + sz) with h3 | h3
   ·rw [if_neg (by omega), if_pos (by omega), List.append_assoc, List.getElem?_append_right (by omega), htl, List.getElem?_append_left (by omega)]
   ·rw [if_pos (by rw [hd]; omega), List.getElem?_append_right (by rw [List.length_append, htl]; omega), List.length_append, htl, hm]
 ·rw [if_neg hq, List.getElem?_eq_none]
  simp only [List.length_append, List.length_take, List.length_drop]
  omega
section
variable {P : Program} {w : World} {t t2 ty e e' ti : TypeId} {z : Value} {sz bytes g o dLen dCap sLen sCap : Nat} {a : Addr} {cur ms : List Value}
theorem run_copyS (T : RowT P t e z sz bytes) (hB : Blk w g e' cur) (hr : ∀ j v, ms[j]? = some v → w.cell? (a.add j) = some v) (hm : ms.length = Nat.min sLen dLen * sz) (h1 : ∀ u ∈ ms, u.oneCell' = true) (hfit : o + ms.length ≤ cur.length) :
  ∃ w', (Builtin.copy_ #[t, t2] ty #[.slice (some ⟨g, o, none⟩) dLen dCap, .slice (some a) sLen sCap]).run P w = .ok (goInt (Nat.min sLen dLen)) w' ∧ Blk w' g e' (spl cur o ms) ∧ w.grownBy w' (some g) ∧ w'.heap.size = w.heap.size := by
 obtain ⟨i, hi, hz, hs, hb⟩ := info_parts T.hi
 have hl := run_loadCells_list (P := P) w a ms hr
 obtain ⟨w', hst, hB', hg, hsz⟩ := run_storeCells_blk (P := P) (o := o) ms 0 cur w hB h1 (by omega)
 refine ⟨w', ?_, hB', hg, hsz⟩
 simp [Builtin.copy_, run_underlying T.ht, Builtin.lenOf, Builtin.firstCells, sizeOf, typeInfo, hi, hs, ← hm, hl, hst]
theorem run_append_zgrow (T : RowT P t e z sz bytes) (hti : P.underlying ti = some (.int .i64)) {n c m : Nat} (hl : ms.length = n * sz) (hr : ∀ j v, ms[j]? = some v → w.cell? (a.add j) = some v) (hm : 0 < m) (hc : c < n + m) (hmx : n + m ≤ 1000000) (hcx : c ≤ 1000000) (hb : bytes ≤ 100) :
  ∃ c' zS, (Builtin.append_ #[t, ti] ty #[.slice (some a) n c, .int .i64 (m : Int)]).run P w = .ok (.slice (some ⟨w.heap.size, 0, none⟩) (n + m) c') (w.drew.alloc (.cells (ms ++ zS).toArray e)) ∧ (ms ++ zS).length = c' * sz ∧ n + m ≤ c' ∧ c' ≤ maxLen := by
 obtain ⟨i, hi, hz, hs, hb'⟩ := info_parts T.hi
 have hge := grownCap_ge w (n + m) c e
 have hcm : grownCap w (n + m) c e ≤ maxLen := grownCap_le_maxLen w (n + m) c e (by simp only [maxLen]; omega)
 refine ⟨grownCap w (n + m) c e, (Builtin.zeroCells z.cells m ++ Builtin.zeroCells z.cells (grownCap w (n + m) c e - (n + m))).toList, ?_, ?_, hge, hcm⟩
 ·have hw : IntKind.i64.wrap (m : Int) = m := i64_in (by omega) (by omega)
  have hneg : ¬ ((m : Int) < 0) := by omega
  have hb1 : ¬ (281474976710656 < (m : Int) * (i.bytes : Int)) := by
   have h1 : (m : Int) * (i.bytes : Int) = ((m * i.bytes : Nat) : Int) := by simp
   have h2 := Nat.mul_le_mul (show m ≤ 1000000 by omega) (show i.bytes ≤ 100 by omega)
   omega
  have h63 : ¬ (9223372036854775807 < ((n : Int) + (m : Int))) := by omega
  have hroom : ¬ (n + m ≤ c) := by omega
  have h48 := nextslicecap_le (need := n + m) (old := c) (by omega)
  have h48' : ¬ (281474976710656 < Builtin.nextslicecap (n + m) c * i.bytes) := by
   have h2 := Nat.mul_le_mul (show Builtin.nextslicecap (n + m) c ≤ 2000000 + 2000000 by omega) (show i.bytes ≤ 100 by omega)
   omega
  have hmz : m ≠ 0 := by omega
  have hms : n * i.size = ms.length := by rw [hl, hs]
  have hload2 := run_loadCells_list (P := P) w.drew a ms hr
  have hmsz : m * i.size ≠ 0 := Nat.mul_ne_zero hmz (by have := T.h0; omega)
  simp [Builtin.append_, run_underlying T.ht, run_underlying hti, sizeOf, typeInfo, zeroValue, hi, hz, asInt, asIntOf, hw, hneg, hb1, h63, hroom, hmsz, h48', Builtin.lenOf, Builtin.firstCells, hms, hload2, Question.forced, newRow, grownCap]
  congr 2
  apply Array.ext'
  simp
 ·rw [List.length_append, hl, Array.length_toList, Array.size_append, size_zeroCells, size_zeroCells, T.hz, ← Nat.add_mul, ← Nat.add_mul]
  congr 1
  omega
end
end Go.Proofs.YtahkeoegbjopfaaGreat
namespace Go.Proofs.YtahkeoegbjopfaaGreat
set_option maxRecDepth 100000
open Go.RowKit
section
variable {P : Program} {N : Nat} {fr : Fr} {w : World} {ty t e : TypeId} {x y z u : Operand} {A : Option Addr} {len cap sz : Nat} {kl kh km : IntKind} {L H M : Int}
theorem o_slLoG (lo : Nat) (hu : P.underlying t = some (.slice e)) (hs : ∀ w, (sizeOf e).run P w = .ok sz w) (hx : fr.ev x = some (.slice A len cap)) (hy : fr.ev y = some (.int kl L)) (hl : L = (lo : Int)) (h1 : lo ≤ len) : OpV P N fr w (.slice t x (some y) none none) ty (.slice (cutA A cap sz lo) (len - lo) (cap - lo)) w := o_slice_lo hu hs hx hy hl h1
theorem o_slHiG (hi : Nat) (hu : P.underlying t = some (.slice e)) (hs : ∀ w, (sizeOf e).run P w = .ok sz w) (hx : fr.ev x = some (.slice A len cap)) (hz : fr.ev z = some (.int kh H)) (hh : H = (hi : Int)) (h2 : hi ≤ cap) : OpV P N fr w (.slice t x none (some z) none) ty (.slice A hi cap) w := o_slice_hi hu hs hx hz hh h2
theorem o_slBothG (lo hi : Nat) (hu : P.underlying t = some (.slice e)) (hs : ∀ w, (sizeOf e).run P w = .ok sz w) (hx : fr.ev x = some (.slice A len cap)) (hy : fr.ev y = some (.int kl L)) (hz : fr.ev z = some (.int kh H)) (hl : L = (lo : Int)) (hh : H = (hi : Int)) (h1 : lo ≤ hi) (h2 : hi ≤ cap) : OpV P N fr w (.slice t x (some y) (some z) none) ty (.slice (cutA A cap sz lo) (hi - lo) (cap - lo)) w := o_slice hu hs hx hy hz hl hh h1 h2
theorem o_sl3G (lo hi mx : Nat) (hu : P.underlying t = some (.slice e)) (hs : ∀ w, (sizeOf e).run P w = .ok sz w) (hx : fr.ev x = some (.slice A len cap)) (hy : fr.ev y = some (.int kl L)) (hz : fr.ev z = some (.int kh H)) (hq : fr.ev u = some (.int km M))
  (hl : L = (lo : Int)) (hh : H = (hi : Int)) (hm : M = (mx : Int)) (h1 : lo ≤ hi) (h2 : hi ≤ mx) (h3 : mx ≤ cap) : OpV P N fr w (.slice t x (some y) (some z) (some u)) ty (.slice (cutA A mx sz lo) (hi - lo) (mx - lo)) w := o_slice3S lo hi mx hu hs hx hy hz hq hl hh hm h1 h2 h3
theorem o_capG (hu : P.underlying t = some (.slice e)) (hx : fr.ev x = some (.slice A len cap)) : OpV P N fr w (.call { callee := .builtin .cap, args := #[x], argTypes := #[t] }) ty (.int .i64 cap) w :=
 o_builtin (xs := [x]) (vs := [.slice A len cap]) (by simp [Fr.evs, hx]) (by simp [builtin, Builtin.cap_, run_underlying hu, goInt]) (by simp)
end
theorem blk_shape {w : World} {g : Nat} {t : TypeId} {cs : List Value} (h : Blk w g t cs) : w.shape? g = some (t, cs.length) := by
 unfold Blk at h
 simp [World.shape?, h]
section
variable {P : Program} {fn : Func} {F : Ending → World → Prop} {N : Nat} {ks : List K} {ops : Array Oper} {tg : Tags} {l : List Oper} {fr : Fr} {w : World} {ty t t2 e e' ti : TypeId} {z : Value} {sz bytes : Nat} {pos : String} {aft : Array Edge} {gd : Option (Nat × Bool)} {d g o dl dc sl sc n m c : Nat} {x y : Operand} {a : Addr} {cur ms : List Value}
theorem wl_copyR (T : RowT P t e z sz bytes) (hx : fr.ev x = some (.slice (some ⟨g, o, none⟩) dl dc)) (hy : fr.ev y = some (.slice (some a) sl sc)) (hB : Blk w g e' cur) (hr : ∀ j v, ms[j]? = some v → w.cell? (a.add j) = some v) (hm : ms.length = Nat.min sl dl * sz) (h1 : ∀ u ∈ ms, u.oneCell' = true) (hfit : o + ms.length ≤ cur.length)
  (hk : ∀ w', Blk w' g e' (spl cur o ms) → Grew w w' e' (some g) → w'.heap.size = w.heap.size → WL P fn F N ks ops tg.tail l ((d, goInt (Nat.min sl dl)) :: fr) w')
  (ht : tg.loud = true := by rfl) (hg : onG ops fr gd = true := by rfl) (hd : Nat.blt d N = true := by rfl) (hq : tg.calm = false ∨ tg.row = some g := by exact .inl rfl) :
  WL P fn F N ks ops tg (⟨some d, .call { callee := .builtin .copy, args := #[x, y], argTypes := #[t, t2] }, ty, pos, aft, gd⟩ :: l) fr w := by
 obtain ⟨w', hrun, r1, r2, r3⟩ := run_copyS (ty := ty) (t2 := t2) (dCap := dc) (sCap := sc) T hB hr hm h1 hfit
 exact wl_v (o_builtin (xs := [x, y]) (vs := [.slice (some ⟨g, o, none⟩) dl dc, .slice (some a) sl sc]) (by simp [Fr.evs, hx, hy]) (by simp [builtin, hrun]) (by simp [goInt])) (hk w' r1 ⟨r2, fun k hk => by injection hk with hk; subst hk; exact hB.at_⟩ r3) ht hg hd (hq.imp id fun e => by rw [e]; exact r2)
theorem wl_appzg {M : Int} (T : RowT P t e z sz bytes) (hti : P.underlying ti = some (.int .i64)) (hx : fr.ev x = some (.slice (some a) n c)) (hy : fr.ev y = some (.int .i64 M)) (hM : M = (m : Int)) (hl : ms.length = n * sz) (hr : ∀ j v, ms[j]? = some v → w.cell? (a.add j) = some v) (hm : 0 < m) (hc : c < n + m) (hmx : n + m ≤ 1000000) (hcx : c ≤ 1000000) (hb : bytes ≤ 100)
  (hk : ∀ w' c' zS, Blk w' w.heap.size e (ms ++ zS) → (ms ++ zS).length = c' * sz → n + m ≤ c' → c' ≤ maxLen → Below w.heap.size w w' → w'.heap.size = w.heap.size + 1 → WL P fn F N ks ops tg.tail l ((d, .slice (some ⟨w.heap.size, 0, none⟩) (n + m) c') :: fr) w')
  (ht : tg.loud = true := by rfl) (hg : onG ops fr gd = true := by rfl) (hd : Nat.blt d N = true := by rfl) :
  WL P fn F N ks ops tg (⟨some d, .call { callee := .builtin .append, args := #[x, y], argTypes := #[t, ti] }, ty, pos, aft, gd⟩ :: l) fr w := by
 subst hM
 obtain ⟨c', zS, hrun, r1, r2, r3⟩ := run_append_zgrow (ty := ty) T hti hl hr hm hc hmx hcx hb
 have hbl : Below w.heap.size w (w.drew.alloc (.cells (ms ++ zS).toArray e)) := ((Below.refl w.heap.size w).drew.alloc (Nat.le_refl _) _)
 have hB : Blk (w.drew.alloc (.cells (ms ++ zS).toArray e)) w.heap.size e (ms ++ zS) := by
  have := Blk.new w.drew e (ms ++ zS).toArray
  simpa using this
 exact wl_v (o_builtin (xs := [x, y]) (vs := [.slice (some a) n c, .int .i64 m]) (by simp [Fr.evs, hx, hy]) (by simp [builtin, hrun]) (by simp)) (hk _ c' zS hB r1 r2 r3 hbl (by simp)) ht hg hd (.inr (grown_of_below hbl _))
end
section
variable {N : Nat} {fr : Fr} {w : World} {ty : TypeId} {x y : Operand} {ts : Array TypeId} {e e' : TypeId} {g g' n c m d o : Nat} {cs cs' : List Value}
theorem o_ovlI (hx : fr.ev x = some (.slice (some ⟨g, 0, none⟩) n c)) (hy : fr.ev y = some (.slice (some ⟨g', o, none⟩) m d)) (hB : Blk w g e cs) (hB' : Blk w g' e' cs') (hne : g ≠ g') (h0 : cs'.length ≠ 0) :
  OpV Tryz.prog N fr w (.call { callee := .value (.func 162), args := #[x, y], argTypes := ts }) ty (.bool false) w := fun ac hac op ho _ => by
 have e1 := Lib.run_overlaps_apart (P := Tryz.prog) w 28 4 94 Tryz.underlying28 2 Tryz.sizeOf94 ⟨g, 0, none⟩ ⟨g', o, none⟩ n c m d hne _ _ _ _ (blk_shape hB) (blk_shape hB') h0 (hB.frozen 0) (hB.frozen _)
 have hrun : (callFunc 162 #[.slice (some ⟨g, 0, none⟩) n c, .slice (some ⟨g', o, none⟩) m d]).run Tryz.prog w = .ok (.value (.bool false)) w := by
  rw [run_callFunc_extern Tryz.func162 (by kernel_rfl) (by kernel_rfl) (by kernel_rfl) (e := Extern.SlicesOverlaps.overlaps #[28, 28] #[4]) (by kernel_rfl), e1]
  rfl
 have hfn : ac.eval (.func 162) = .func (.func 162) #[] #[] := rfl
 simp [execOp, ho, resolve, invoke, Deferred.ofValue, hac.ev hx, hac.ev hy, hfn, hrun]
theorem o_ovlK (hx : fr.ev x = some (.slice (some ⟨g, 0, none⟩) n c)) (hy : fr.ev y = some (.slice (some ⟨g', o, none⟩) m d)) (hB : Blk w g e cs) (hB' : Blk w g' e' cs') (hne : g ≠ g') (h0 : cs'.length ≠ 0) :
  OpV Tryz.prog N fr w (.call { callee := .value (.func 182), args := #[x, y], argTypes := ts }) ty (.bool false) w := fun ac hac op ho _ => by
 have e1 := Lib.run_overlaps_apart (P := Tryz.prog) w 29 4 42 Tryz.underlying29 32 Tryz.sizeOf42 ⟨g, 0, none⟩ ⟨g', o, none⟩ n c m d hne _ _ _ _ (blk_shape hB) (blk_shape hB') h0 (hB.frozen 0) (hB.frozen _)
 have hrun : (callFunc 182 #[.slice (some ⟨g, 0, none⟩) n c, .slice (some ⟨g', o, none⟩) m d]).run Tryz.prog w = .ok (.value (.bool false)) w := by
  rw [run_callFunc_extern Tryz.func182 (by kernel_rfl) (by kernel_rfl) (by kernel_rfl) (e := Extern.SlicesOverlaps.overlaps #[29, 29] #[4]) (by kernel_rfl), e1]
  rfl
 have hfn : ac.eval (.func 182) = .func (.func 182) #[] #[] := rfl
 simp [execOp, ho, resolve, invoke, Deferred.ofValue, hac.ev hx, hac.ev hy, hfn, hrun]
end
theorem K_insI {A B : Option Addr} {I : List (By × By)} {x : By × By} {i n c q lo hi lo2 hi2 : Nat} {iv : Int} (w : World) (hA : OwnI w lo hi A c I) (hB : OwnI w lo2 hi2 B q [x]) (hap : hi ≤ lo2) (hn : n = I.length) (hiv : iv = (i : Int)) (hi1 : i ≤ I.length) (hl : I.length ≤ 100000) (hlo : lo ≤ w.heap.size) :
  CallsR Tryz.prog 121 [.slice A n c, .int .i64 iv, .slice B 1 q] w fun v w' => ∃ A' c', v = .slice A' (I.take i ++ [x] ++ I.drop i).length c' ∧ OwnI w' lo w'.heap.size A' c' (I.take i ++ [x] ++ I.drop i) ∧ Grew w w' 94 (blk A) ∧ Below lo w w' ∧ (blk A' = blk A ∨ ∀ k, blk A' = some k → w.heap.size ≤ k) := by
 subst hn; subst hiv
 have hAc := hA.cap
 refine callsR Tryz.func121 rfl rfl (by kernel_rfl) rfl ?_
 have hw := Below.refl w.heap.size w
 refine zs (za rfl (wl_nil (zs (zm rfl (zm rfl ?_)))))
 refine zp (o_slLoG (i) Tryz.underlying28 Tryz.sizeOf94 rfl rfl rfl (by omega)) ?_
 refine wl_nil (zs (zm rfl ?_))
 refine zp (o_len (t := 28) Tryz.underlying28 rfl) ?_
 refine za rfl (wl_nil (rk_seq (zs (zm rfl ?_))))
 refine zp (o_eq rfl rfl) ?_
 refine wl_nil ?_
 refine rk_false rfl ?_
 refine rk_skip (zs (zm rfl ?_))
 refine zp (o_len (t := 28) Tryz.underlying28 rfl) ?_
 refine za rfl (wl_nil (rk_seq (zs (zm rfl (zm rfl ?_)))))
 refine zp (o_eq rfl rfl) ?_
 refine wl_nil ?_
 refine rk_if rfl (fun h22 => ?_) (fun h22 => ?_)
 ·have he : i = I.length := by omega
  have e : I.take i ++ [x] ++ I.drop i = I ++ [x] := by rw [he, List.take_length, List.drop_length, List.append_nil]
  rw [e]
  refine zs (zm rfl (zm rfl ?_))
  refine wl_appS (X := gItem) Tryz.rowItem rfl hA rfl rfl hB.to_RIT rfl (by simp [gItem_tys]) gItem_one (by simp; omega) (by simp; omega) hlo ?_
  intro A25 c25 w25 f25 g25 b25 t25
  refine za rfl (wl_nil ?_)
  refine ret1 rfl rfl ?_
  exact ⟨A25, c25, rfl, f25, g25, b25, t25.imp id (fun e k hk => by rw [e] at hk; injection hk with hk; omega)⟩
 have hil : i < I.length := by omega
 obtain ⟨xs, hrow, hp⟩ := OwnS.pts hA
 obtain ⟨ms, hrowB, hpB⟩ := OwnS.pts hB
 have hcm := row_max hrow
 obtain ⟨g, cur, rfl, g1, g2, hBk, g3, g4, g5⟩ := hrow.blk_ (by omega)
 obtain ⟨gb, curb, rfl, b1, b2, hBb, b3, b4, b5⟩ := hrowB.blk_ (by simp)
 have hcut : ∀ k, k ≠ c → cutA (some (⟨g, 0, none⟩ : Addr)) c 2 k = some ⟨g, k * 2, none⟩ := fun k hk => by unfold cutA; rw [if_neg (fun e => hk e.symm)]; simp [add_plain]
 have hxl : xs.length = I.length * 2 := hp.n
 have hml : ms.length = 2 := hpB.n
 have hne : gb ≠ g := by omega
 have hx1 : ∀ u ∈ xs, u.oneCell' = true := hp.one gItem_one (by decide)
 have hm1 : ∀ u ∈ ms, u.oneCell' = true := hpB.one gItem_one (by decide)
 obtain ⟨J, hJ⟩ : ∃ J, I.take i ++ [x] ++ I.drop i = J := ⟨_, rfl⟩
 have hJl : J.length = I.length + 1 := by rw [← hJ]; simp only [List.length_append, List.length_take, List.length_drop, List.length_singleton]; omega
 have hxd : (xs.drop (i * 2)).length = (I.length - i) * 2 := by rw [List.length_drop, hxl]; omega
 have hJx : (xs.take (i * 2) ++ ms ++ xs.drop (i * 2)).length = J.length * 2 := by
  simp only [List.length_append, List.length_take, hxd, hml, hxl, hJl]; omega
 rw [hJ, hJl]
 by_cases hcap : I.length + 1 ≤ c
 ·refine rk_skip ?_
  refine rk_seq (zs (zm rfl (zm rfl ?_)))
  refine zp (o_add rfl rfl (by omega) (by omega)) ?_
  refine zm rfl ?_
  refine zp (o_capG Tryz.underlying28 rfl) ?_
  refine zp (o_gt rfl rfl) ?_
  refine wl_nil ?_
  refine rk_if rfl (fun h31 => absurd h31 (by omega)) (fun h31 => ?_)
  refine rk_skip (zs (zm rfl (zm rfl (zm rfl ?_))))
  refine zp (o_add rfl rfl (by omega) (by omega)) ?_
  refine zp (o_slHiG (I.length + 1) Tryz.underlying28 Tryz.sizeOf94 rfl rfl (by omega) (by omega)) ?_
  refine za rfl (wl_nil (rk_seq (zs (zm rfl (zm rfl (zm rfl (zm rfl ?_)))))))
  refine zp (o_add rfl rfl (by omega) (by omega)) ?_
  refine zp (o_slLoG (i + 1) Tryz.underlying28 Tryz.sizeOf94 rfl rfl (by omega) (by omega)) ?_
  rw [hcut (i + 1) (by omega)]
  refine wl_r (o_ovlI rfl rfl hBb hBk hne (by rw [g4]; show c * 2 ≠ 0; omega)) ?_
  refine zp (o_not rfl) ?_
  refine wl_nil ?_
  refine rk_true rfl ?_
  refine rk_seq ?_
  refine rk_draw (id := 15) (none) [0, 0, 0, 6, 9, 0, 0, 96, 144] [0, 0, 0, 6, 15, 0, 0, 96, 255] 256 0 [(.p, 0), (.p, 1), (.p, 2), (.p, 3), (.p, 4), (.p, 5), (.p, 6), (.p, 7), (.l, 8)] (by kernel_rfl) (by kernel_rfl) (by kernel_rfl) (by kernel_rfl) (by kernel_rfl) ?_
  replace hw := hw.drew
  refine zm rfl (zm rfl (zm rfl ?_))
  refine zp (o_add rfl rfl (by omega) (by omega)) ?_
  refine zp (o_slLoG (i + 1) Tryz.underlying28 Tryz.sizeOf94 rfl rfl (by omega) (by omega)) ?_
  refine zm rfl (zm rfl ?_)
  refine zp (o_slLoG (i) Tryz.underlying28 Tryz.sizeOf94 rfl rfl rfl (by omega)) ?_
  rw [hcut (i + 1) (by omega), hcut i (by omega)]
  have hmin1 : Nat.min (I.length + 1 - i) (I.length + 1 - (i + 1)) = I.length - i := by show min _ _ = _; omega
  refine wl_copyR (ms := xs.drop (i * 2)) Tryz.rowItem rfl rfl hBk.d (src_blk hBk.d g5) (by rw [hmin1, hxd]) (fun u hu => hx1 u (List.mem_of_mem_drop hu)) (by rw [hxd, g4]; show (i + 1) * 2 + (I.length - i) * 2 ≤ c * 2; omega) ?_
  intro w77 f77 g77 s77
  have fb77 : Blk w77 gb 94 curb := hBb.d.grown g77.g (fun e => by injection e with e; exact hne e)
  refine wl_nild ?_
  refine zs (zm rfl (zm rfl ?_))
  refine zp (o_slLoG (i) Tryz.underlying28 Tryz.sizeOf94 rfl rfl rfl (by omega)) ?_
  refine zm rfl ?_
  rw [hcut i (by omega)]
  have hmin2 : Nat.min 1 (I.length + 1 - i) = 1 := by show min _ _ = _; omega
  have hms0 : ms = ms.drop 0 := rfl
  refine wl_copyR (ms := ms) Tryz.rowItem rfl rfl f77 (hms0 ▸ src_blk (k := 0) fb77 b5) (by rw [hmin2, hml]) hm1 (by rw [spl_length (by rw [hxd, g4]; show (i + 1) * 2 + (I.length - i) * 2 ≤ c * 2; omega), hml, g4]; show i * 2 + 2 ≤ c * 2; omega) ?_
  intro w82 f82 g82 s82
  refine wl_nil (zs (zm rfl (za rfl (wl_nil ?_))))
  refine ret1 rfl rfl ?_
  have gg : Grew w w82 94 (some g) := ⟨grownBy_trans (grownBy_trans (grownBy_drew w _) g77.g) g82.g, fun k hk => by injection hk with hk; subst hk; exact hBk.at_⟩
  refine ⟨some ⟨g, 0, none⟩, c, rfl, ?_, gg, gg.below hlo (fun k hk => by injection hk with hk; omega), .inl rfl⟩
  have hpp : Pts gItem w82 (xs.take (i * 2) ++ ms ++ xs.drop (i * 2)) J := by
   rw [← hJ]
   exact (((hp.take hi1).append hpB).append (hp.drop hi1)).ty gg (by simp [gItem_tys])
  refine hpp.own ?_
  rw [hJl]
  have hgl := f82.lt
  exact row_of_blk f82 g1 (by omega) (by rw [spl_length (by rw [spl_length (by rw [hxd, g4]; show (i + 1) * 2 + (I.length - i) * 2 ≤ c * 2; omega), hml, g4]; show i * 2 + 2 ≤ c * 2; omega), spl_length (by rw [hxd, g4]; show (i + 1) * 2 + (I.length - i) * 2 ≤ c * 2; omega), g4]) hcap hcm (by rw [hJx, hJl]; rfl) (ins_in hi1 hxl hml (by rw [g4]; show (I.length + 1) * 2 ≤ c * 2; omega) g5)
 ·refine rk_skip ?_
  refine rk_seq (zs (zm rfl (zm rfl ?_)))
  refine zp (o_add rfl rfl (by omega) (by omega)) ?_
  refine zm rfl ?_
  refine zp (o_capG Tryz.underlying28 rfl) ?_
  refine zp (o_gt rfl rfl) ?_
  refine wl_nil ?_
  refine rk_if rfl (fun h31 => ?_) (fun h31 => h31.elim (by omega))
  refine zs (zm rfl (zm rfl ?_))
  refine zp (o_slHiG (i) Tryz.underlying28 Tryz.sizeOf94 rfl rfl rfl (by omega)) ?_
  refine zm rfl (zm rfl ?_)
  refine zp (o_add rfl rfl (by omega) (by omega)) ?_
  refine zm rfl ?_
  refine zp (o_sub rfl rfl (by omega) (by omega)) ?_
  have hxt : (xs.take (i * 2)).length = i * 2 := by rw [List.length_take, hxl]; omega
  refine wl_appzg (m := I.length + 1 - i) (ms := xs.take (i * 2)) Tryz.rowItem Tryz.underlying3 rfl rfl (by omega) hxt (fun j v hj => by
   rcases Nat.lt_or_ge j (i * 2) with h | h
   ·rw [List.getElem?_take_of_lt h] at hj
    have := src_blk (k := 0) hBk g5 j v hj
    exact this
   ·rw [List.getElem?_eq_none (by omega)] at hj; cases hj) (by omega) (by omega) (by omega) (by omega) (by omega) ?_
  intro w40 c40 zS f40 l40 n40 m40 b40 s40
  have hcut2 : ∀ k, k ≠ c40 → cutA (some (⟨w.heap.size, 0, none⟩ : Addr)) c40 2 k = some ⟨w.heap.size, k * 2, none⟩ := fun k hk => by unfold cutA; rw [if_neg (fun e => hk e.symm)]; simp [add_plain]
  have hnm : i + (I.length + 1 - i) = I.length + 1 := by omega
  rw [hnm] at n40 ⊢
  have fb40 : Blk w40 gb 94 curb := hBb.under b40
  have fk40 : Blk w40 g 94 cur := hBk.under b40
  have hgl := hBk.lt
  have hbl := hBb.lt
  refine za rfl (wl_nil (zs (zm rfl (zm rfl ?_))))
  refine zp (o_slLoG (i) Tryz.underlying28 Tryz.sizeOf94 rfl rfl rfl (by omega)) ?_
  refine zm rfl ?_
  rw [hcut2 i (by omega)]
  have hmin2 : Nat.min 1 (I.length + 1 - i) = 1 := by show min _ _ = _; omega
  refine wl_copyR (ms := ms) Tryz.rowItem rfl rfl f40 (src_blk (k := 0) fb40 b5) (by rw [hmin2, hml]) hm1 (by rw [hml, l40]; omega) ?_
  intro w45 f45 g45 s45
  have fk45 : Blk w45 g 94 cur := fk40.grown g45.g (fun e => by injection e with e; omega)
  refine wl_nil (rk_seq ?_)
  refine rk_draw (id := 11) (none) [0, 0, 0, 6, 9, 0, 0, 96, 144] [0, 0, 0, 6, 15, 0, 0, 96, 255] 256 0 [(.p, 0), (.p, 1), (.p, 2), (.p, 3), (.p, 4), (.p, 5), (.p, 6), (.p, 7), (.l, 8)] (by kernel_rfl) (by kernel_rfl) (by kernel_rfl) (by kernel_rfl) (by kernel_rfl) ?_
  replace fk45 := fk45.d
  replace f45 := f45.d
  refine zm rfl (zm rfl (zm rfl ?_))
  refine zp (o_add rfl rfl (by omega) (by omega)) ?_
  refine zp (o_slLoG (i + 1) Tryz.underlying28 Tryz.sizeOf94 rfl rfl (by omega) (by omega)) ?_
  refine zm rfl (zm rfl ?_)
  refine zp (o_slLoG (i) Tryz.underlying28 Tryz.sizeOf94 rfl rfl rfl (by omega)) ?_
  rw [hcut2 (i + 1) (by omega), hcut i (by omega)]
  have hmin3 : Nat.min (I.length - i) (I.length + 1 - (i + 1)) = I.length - i := by show min _ _ = _; omega
  have l45 : (spl (xs.take (i * 2) ++ zS) (i * 2) ms).length = c40 * 2 := by rw [spl_length (by rw [hml, l40]; omega), l40]
  refine wl_copyR (ms := xs.drop (i * 2)) Tryz.rowItem rfl rfl f45.d (src_blk fk45.d g5) (by rw [hmin3, hxd]) (fun u hu => hx1 u (List.mem_of_mem_drop hu)) (by rw [l45, hxd]; omega) ?_
  intro w54 f54 g54 s54
  refine wl_nild ?_
  refine zs (zm rfl (za rfl (wl_nil ?_)))
  refine ret1 rfl rfl ?_
  have z45 : w45.drew.heap.size = w45.heap.size := rfl
  have hb54 : Below w.heap.size w w54 := (b40.trans (g45.below (by omega) (fun k hk => by injection hk with hk; omega))).drew.trans (g54.below (by omega) (fun k hk => by injection hk with hk; omega))
  have gg : Grew w w54 94 (some g) := ⟨grown_of_below hb54 _, fun k hk => by injection hk with hk; subst hk; exact hBk.at_⟩
  refine ⟨some ⟨w.heap.size, 0, none⟩, c40, rfl, ?_, gg, hb54.mono hlo, .inr (fun k hk => Nat.le_of_eq (by simpa [blk] using hk))⟩
  have hpp : Pts gItem w54 (xs.take (i * 2) ++ ms ++ xs.drop (i * 2)) J := by
   rw [← hJ]
   exact (((hp.take hi1).append hpB).append (hp.drop hi1)).ty gg (by simp [gItem_tys])
  refine hpp.own ?_
  rw [hJl]
  exact row_of_blk (sz := 2) f54 hlo f54.lt (by rw [spl_length (by rw [l45, hxd]; omega), l45]) n40 m40 (by rw [hJx, hJl]) (ins_new (sz := 2) hi1 hxl hml (by rw [l40]; omega) (by rw [List.take_append_of_le_length (by omega), List.take_of_length_le (by omega)]))
theorem K_insK {A B : Option Addr} {I : List Ky} {x : Ky} {i n c q lo hi lo2 hi2 : Nat} {iv : Int} (w : World) (hA : OwnKs w lo hi A c I) (hB : OwnKs w lo2 hi2 B q [x]) (hap : hi ≤ lo2) (hn : n = I.length) (hiv : iv = (i : Int)) (hi1 : i ≤ I.length) (hl : I.length ≤ 100000) (hlo : lo ≤ w.heap.size) :
  CallsR Tryz.prog 165 [.slice A n c, .int .i64 iv, .slice B 1 q] w fun v w' => ∃ A' c', v = .slice A' (I.take i ++ [x] ++ I.drop i).length c' ∧ OwnKs w' lo w'.heap.size A' c' (I.take i ++ [x] ++ I.drop i) ∧ Grew w w' 42 (blk A) ∧ Below lo w w' ∧ (blk A' = blk A ∨ ∀ k, blk A' = some k → w.heap.size ≤ k) := by
 subst hn; subst hiv
 have hAc := hA.cap
 refine callsR Tryz.func165 rfl rfl (by kernel_rfl) rfl ?_
 have hw := Below.refl w.heap.size w
 refine zs (za rfl (wl_nil (zs (zm rfl (zm rfl ?_)))))
 refine zp (o_slLoG (i) Tryz.underlying29 Tryz.sizeOf42 rfl rfl rfl (by omega)) ?_
 refine wl_nil (zs (zm rfl ?_))
 refine zp (o_len (t := 29) Tryz.underlying29 rfl) ?_
 refine za rfl (wl_nil (rk_seq (zs (zm rfl ?_))))
 refine zp (o_eq rfl rfl) ?_
 refine wl_nil ?_
 refine rk_false rfl ?_
 refine rk_skip (zs (zm rfl ?_))
 refine zp (o_len (t := 29) Tryz.underlying29 rfl) ?_
 refine za rfl (wl_nil (rk_seq (zs (zm rfl (zm rfl ?_)))))
 refine zp (o_eq rfl rfl) ?_
 refine wl_nil ?_
 refine rk_if rfl (fun h22 => ?_) (fun h22 => ?_)
 ·have he : i = I.length := by omega
  have e : I.take i ++ [x] ++ I.drop i = I ++ [x] := by rw [he, List.take_length, List.drop_length, List.append_nil]
  rw [e]
  refine zs (zm rfl (zm rfl ?_))
  refine wl_appS (X := gArr 32) Tryz.rowKs rfl hA rfl rfl hB.to_RKT rfl (by simp [gArr_tys]) gKey_one (by simp; omega) (by simp; omega) hlo ?_
  intro A25 c25 w25 f25 g25 b25 t25
  refine za rfl (wl_nil ?_)
  refine ret1 rfl rfl ?_
  exact ⟨A25, c25, rfl, f25, g25, b25, t25.imp id (fun e k hk => by rw [e] at hk; injection hk with hk; omega)⟩
 have hil : i < I.length := by omega
 obtain ⟨xs, hrow, hp⟩ := OwnS.pts hA
 obtain ⟨ms, hrowB, hpB⟩ := OwnS.pts hB
 have hcm := row_max hrow
 obtain ⟨g, cur, rfl, g1, g2, hBk, g3, g4, g5⟩ := hrow.blk_ (by omega)
 obtain ⟨gb, curb, rfl, b1, b2, hBb, b3, b4, b5⟩ := hrowB.blk_ (by simp)
 have hcut : ∀ k, k ≠ c → cutA (some (⟨g, 0, none⟩ : Addr)) c 32 k = some ⟨g, k * 32, none⟩ := fun k hk => by unfold cutA; rw [if_neg (fun e => hk e.symm)]; simp [add_plain]
 have hxl : xs.length = I.length * 32 := hp.n
 have hml : ms.length = 32 := hpB.n
 have hne : gb ≠ g := by omega
 have hx1 : ∀ u ∈ xs, u.oneCell' = true := hp.one gKey_one (by decide)
 have hm1 : ∀ u ∈ ms, u.oneCell' = true := hpB.one gKey_one (by decide)
 obtain ⟨J, hJ⟩ : ∃ J, I.take i ++ [x] ++ I.drop i = J := ⟨_, rfl⟩
 have hJl : J.length = I.length + 1 := by rw [← hJ]; simp only [List.length_append, List.length_take, List.length_drop, List.length_singleton]; omega
 have hxd : (xs.drop (i * 32)).length = (I.length - i) * 32 := by rw [List.length_drop, hxl]; omega
 have hJx : (xs.take (i * 32) ++ ms ++ xs.drop (i * 32)).length = J.length * 32 := by
  simp only [List.length_append, List.length_take, hxd, hml, hxl, hJl]; omega
 rw [hJ, hJl]
 by_cases hcap : I.length + 1 ≤ c
 ·refine rk_skip ?_
  refine rk_seq (zs (zm rfl (zm rfl ?_)))
  refine zp (o_add rfl rfl (by omega) (by omega)) ?_
  refine zm rfl ?_
  refine zp (o_capG Tryz.underlying29 rfl) ?_
  refine zp (o_gt rfl rfl) ?_
  refine wl_nil ?_
  refine rk_if rfl (fun h31 => absurd h31 (by omega)) (fun h31 => ?_)
  refine rk_skip (zs (zm rfl (zm rfl (zm rfl ?_))))
  refine zp (o_add rfl rfl (by omega) (by omega)) ?_
  refine zp (o_slHiG (I.length + 1) Tryz.underlying29 Tryz.sizeOf42 rfl rfl (by omega) (by omega)) ?_
  refine za rfl (wl_nil (rk_seq (zs (zm rfl (zm rfl (zm rfl (zm rfl ?_)))))))
  refine zp (o_add rfl rfl (by omega) (by omega)) ?_
  refine zp (o_slLoG (i + 1) Tryz.underlying29 Tryz.sizeOf42 rfl rfl (by omega) (by omega)) ?_
  rw [hcut (i + 1) (by omega)]
  refine wl_r (o_ovlK rfl rfl hBb hBk hne (by rw [g4]; show c * 32 ≠ 0; omega)) ?_
  refine zp (o_not rfl) ?_
  refine wl_nil ?_
  refine rk_true rfl ?_
  refine rk_seq ?_
  refine rk_draw (id := 15) (none) [0, 0, 0, 6, 9, 0, 0, 96, 144] [0, 0, 0, 6, 15, 0, 0, 96, 255] 256 0 [(.p, 0), (.p, 1), (.p, 2), (.p, 3), (.p, 4), (.p, 5), (.p, 6), (.p, 7), (.l, 8)] (by kernel_rfl) (by kernel_rfl) (by kernel_rfl) (by kernel_rfl) (by kernel_rfl) ?_
  replace hw := hw.drew
  refine zm rfl (zm rfl (zm rfl ?_))
  refine zp (o_add rfl rfl (by omega) (by omega)) ?_
  refine zp (o_slLoG (i + 1) Tryz.underlying29 Tryz.sizeOf42 rfl rfl (by omega) (by omega)) ?_
  refine zm rfl (zm rfl ?_)
  refine zp (o_slLoG (i) Tryz.underlying29 Tryz.sizeOf42 rfl rfl rfl (by omega)) ?_
  rw [hcut (i + 1) (by omega), hcut i (by omega)]
  have hmin1 : Nat.min (I.length + 1 - i) (I.length + 1 - (i + 1)) = I.length - i := by show min _ _ = _; omega
  refine wl_copyR (ms := xs.drop (i * 32)) Tryz.rowKs rfl rfl hBk.d (src_blk hBk.d g5) (by rw [hmin1, hxd]) (fun u hu => hx1 u (List.mem_of_mem_drop hu)) (by rw [hxd, g4]; show (i + 1) * 32 + (I.length - i) * 32 ≤ c * 32; omega) ?_
  intro w77 f77 g77 s77
  have fb77 : Blk w77 gb 42 curb := hBb.d.grown g77.g (fun e => by injection e with e; exact hne e)
  refine wl_nild ?_
  refine zs (zm rfl (zm rfl ?_))
  refine zp (o_slLoG (i) Tryz.underlying29 Tryz.sizeOf42 rfl rfl rfl (by omega)) ?_
  refine zm rfl ?_
  rw [hcut i (by omega)]
  have hmin2 : Nat.min 1 (I.length + 1 - i) = 1 := by show min _ _ = _; omega
  have hms0 : ms = ms.drop 0 := rfl
  refine wl_copyR (ms := ms) Tryz.rowKs rfl rfl f77 (hms0 ▸ src_blk (k := 0) fb77 b5) (by rw [hmin2, hml]) hm1 (by rw [spl_length (by rw [hxd, g4]; show (i + 1) * 32 + (I.length - i) * 32 ≤ c * 32; omega), hml, g4]; show i * 32 + 32 ≤ c * 32; omega) ?_
  intro w82 f82 g82 s82
  refine wl_nil (zs (zm rfl (za rfl (wl_nil ?_))))
  refine ret1 rfl rfl ?_
  have gg : Grew w w82 42 (some g) := ⟨grownBy_trans (grownBy_trans (grownBy_drew w _) g77.g) g82.g, fun k hk => by injection hk with hk; subst hk; exact hBk.at_⟩
  refine ⟨some ⟨g, 0, none⟩, c, rfl, ?_, gg, gg.below hlo (fun k hk => by injection hk with hk; omega), .inl rfl⟩
  have hpp : Pts (gArr 32) w82 (xs.take (i * 32) ++ ms ++ xs.drop (i * 32)) J := by
   rw [← hJ]
   exact (((hp.take hi1).append hpB).append (hp.drop hi1)).ty gg (by simp [gArr_tys])
  refine hpp.own ?_
  rw [hJl]
  have hgl := f82.lt
  exact row_of_blk f82 g1 (by omega) (by rw [spl_length (by rw [spl_length (by rw [hxd, g4]; show (i + 1) * 32 + (I.length - i) * 32 ≤ c * 32; omega), hml, g4]; show i * 32 + 32 ≤ c * 32; omega), spl_length (by rw [hxd, g4]; show (i + 1) * 32 + (I.length - i) * 32 ≤ c * 32; omega), g4]) hcap hcm (by rw [hJx, hJl]; rfl) (ins_in hi1 hxl hml (by rw [g4]; show (I.length + 1) * 32 ≤ c * 32; omega) g5)
 ·refine rk_skip ?_
  refine rk_seq (zs (zm rfl (zm rfl ?_)))
  refine zp (o_add rfl rfl (by omega) (by omega)) ?_
  refine zm rfl ?_
  refine zp (o_capG Tryz.underlying29 rfl) ?_
  refine zp (o_gt rfl rfl) ?_
  refine wl_nil ?_
  refine rk_if rfl (fun h31 => ?_) (fun h31 => h31.elim (by omega))
  refine zs (zm rfl (zm rfl ?_))
  refine zp (o_slHiG (i) Tryz.underlying29 Tryz.sizeOf42 rfl rfl rfl (by omega)) ?_
  refine zm rfl (zm rfl ?_)
  refine zp (o_add rfl rfl (by omega) (by omega)) ?_
  refine zm rfl ?_
  refine zp (o_sub rfl rfl (by omega) (by omega)) ?_
  have hxt : (xs.take (i * 32)).length = i * 32 := by rw [List.length_take, hxl]; omega
  refine wl_appzg (m := I.length + 1 - i) (ms := xs.take (i * 32)) Tryz.rowKs Tryz.underlying3 rfl rfl (by omega) hxt (fun j v hj => by
   rcases Nat.lt_or_ge j (i * 32) with h | h
   ·rw [List.getElem?_take_of_lt h] at hj
    have := src_blk (k := 0) hBk g5 j v hj
    exact this
   ·rw [List.getElem?_eq_none (by omega)] at hj; cases hj) (by omega) (by omega) (by omega) (by omega) (by omega) ?_
  intro w40 c40 zS f40 l40 n40 m40 b40 s40
  have hcut2 : ∀ k, k ≠ c40 → cutA (some (⟨w.heap.size, 0, none⟩ : Addr)) c40 32 k = some ⟨w.heap.size, k * 32, none⟩ := fun k hk => by unfold cutA; rw [if_neg (fun e => hk e.symm)]; simp [add_plain]
  have hnm : i + (I.length + 1 - i) = I.length + 1 := by omega
  rw [hnm] at n40 ⊢
  have fb40 : Blk w40 gb 42 curb := hBb.under b40
  have fk40 : Blk w40 g 42 cur := hBk.under b40
  have hgl := hBk.lt
  have hbl := hBb.lt
  refine za rfl (wl_nil (zs (zm rfl (zm rfl ?_))))
  refine zp (o_slLoG (i) Tryz.underlying29 Tryz.sizeOf42 rfl rfl rfl (by omega)) ?_
  refine zm rfl ?_
  rw [hcut2 i (by omega)]
  have hmin2 : Nat.min 1 (I.length + 1 - i) = 1 := by show min _ _ = _; omega
  refine wl_copyR (ms := ms) Tryz.rowKs rfl rfl f40 (src_blk (k := 0) fb40 b5) (by rw [hmin2, hml]) hm1 (by rw [hml, l40]; omega) ?_
  intro w45 f45 g45 s45
  have fk45 : Blk w45 g 42 cur := fk40.grown g45.g (fun e => by injection e with e; omega)
  refine wl_nil (rk_seq ?_)
  refine rk_draw (id := 11) (none) [0, 0, 0, 6, 9, 0, 0, 96, 144] [0, 0, 0, 6, 15, 0, 0, 96, 255] 256 0 [(.p, 0), (.p, 1), (.p, 2), (.p, 3), (.p, 4), (.p, 5), (.p, 6), (.p, 7), (.l, 8)] (by kernel_rfl) (by kernel_rfl) (by kernel_rfl) (by kernel_rfl) (by kernel_rfl) ?_
  replace fk45 := fk45.d
  replace f45 := f45.d
  refine zm rfl (zm rfl (zm rfl ?_))
  refine zp (o_add rfl rfl (by omega) (by omega)) ?_
  refine zp (o_slLoG (i + 1) Tryz.underlying29 Tryz.sizeOf42 rfl rfl (by omega) (by omega)) ?_
  refine zm rfl (zm rfl ?_)
  refine zp (o_slLoG (i) Tryz.underlying29 Tryz.sizeOf42 rfl rfl rfl (by omega)) ?_
  rw [hcut2 (i + 1) (by omega), hcut i (by omega)]
  have hmin3 : Nat.min (I.length - i) (I.length + 1 - (i + 1)) = I.length - i := by show min _ _ = _; omega
  have l45 : (spl (xs.take (i * 32) ++ zS) (i * 32) ms).length = c40 * 32 := by rw [spl_length (by rw [hml, l40]; omega), l40]
  refine wl_copyR (ms := xs.drop (i * 32)) Tryz.rowKs rfl rfl f45.d (src_blk fk45.d g5) (by rw [hmin3, hxd]) (fun u hu => hx1 u (List.mem_of_mem_drop hu)) (by rw [l45, hxd]; omega) ?_
  intro w54 f54 g54 s54
  refine wl_nild ?_
  refine zs (zm rfl (za rfl (wl_nil ?_)))
  refine ret1 rfl rfl ?_
  have z45 : w45.drew.heap.size = w45.heap.size := rfl
  have hb54 : Below w.heap.size w w54 := (b40.trans (g45.below (by omega) (fun k hk => by injection hk with hk; omega))).drew.trans (g54.below (by omega) (fun k hk => by injection hk with hk; omega))
  have gg : Grew w w54 42 (some g) := ⟨grown_of_below hb54 _, fun k hk => by injection hk with hk; subst hk; exact hBk.at_⟩
  refine ⟨some ⟨w.heap.size, 0, none⟩, c40, rfl, ?_, gg, hb54.mono hlo, .inr (fun k hk => Nat.le_of_eq (by simpa [blk] using hk))⟩
  have hpp : Pts (gArr 32) w54 (xs.take (i * 32) ++ ms ++ xs.drop (i * 32)) J := by
   rw [← hJ]
   exact (((hp.take hi1).append hpB).append (hp.drop hi1)).ty gg (by simp [gArr_tys])
  refine hpp.own ?_
  rw [hJl]
  exact row_of_blk (sz := 32) f54 hlo f54.lt (by rw [spl_length (by rw [l45, hxd]; omega), l45]) n40 m40 (by rw [hJx, hJl]) (ins_new (sz := 32) hi1 hxl hml (by rw [l40]; omega) (by rw [List.take_append_of_le_length (by omega), List.take_of_length_le (by omega)]))
end Go.Proofs.YtahkeoegbjopfaaGreat
namespace Go.Proofs.YtahkeoegbjopfaaGreat
set_option maxRecDepth 100000
open Go.RowKit
def cutI {α : Type} (L : List α) (i : Nat) : List α := L.take i ++ L.drop (i + 1)
theorem K_delI {lo hi i : Nat} {A : Option Addr} {L : List (By × By)} {n c : Nat} {v1 v2 : Int} (w : World) (hown : OwnI w lo hi A c L) (hn : n = L.length) (h1 : v1 = (i : Int)) (h2 : v2 = (i : Int) + 1) (hlen : L.length ≤ 100000) (hil : i < L.length) (hB : lo ≤ w.heap.size) :
  CallsR Tryz.prog 122 [.slice A n c, .int .i64 v1, .int .i64 v2] w fun v w' => v = .slice A (cutI L i).length c ∧ OwnI w' lo hi A c (cutI L i) ∧ Grew w w' 94 (blk A) ∧ Below lo w w' := by
 subst hn; subst h1; subst h2
 have hlt : ∀ k, blk A = some k → lo ≤ k ∧ k < w.heap.size := by obtain ⟨xs, h1, _⟩ := hown; exact RowH.lt h1
 have hty : ∀ k, blk A = some k → TyAt w k 94 := by obtain ⟨xs, h1, _⟩ := hown; exact RowH.ty h1
 refine callsR Tryz.func122 rfl rfl (by kernel_rfl) rfl ?_
 have hw := Below.refl w.heap.size w
 have hcap := hown.cap
 refine zs (za rfl (wl_nil (zs (zm rfl (zm rfl (zm rfl (zm rfl ?_)))))))
 refine zp (o_len (t := 28) Tryz.underlying28 rfl) ?_
 refine zp (o_sl3G (i) (i + 1) (L.length) Tryz.underlying28 Tryz.sizeOf94 rfl rfl rfl rfl rfl (by omega) rfl (by omega) (by omega) (by omega)) ?_
 refine wl_nil (rk_seq (zs (zm rfl (zm rfl ?_))))
 refine zp (o_eq rfl rfl) ?_
 refine wl_nil ?_
 refine rk_if rfl (fun h16 => absurd h16 (by omega)) (fun h16 => ?_)
 refine rk_skip (zs (zm rfl ?_))
 refine zp (o_len (t := 28) Tryz.underlying28 rfl) ?_
 refine za rfl (wl_nil (rk_seq ?_))
 refine rk_draw (id := 5) (none) [0, 0, 3, 0, 0, 24, 36, 127] [0, 0, 3, 0, 0, 24, 63, 127] 64 0 [(.p, 0), (.p, 1), (.p, 2), (.p, 3), (.p, 4), (.p, 5), (.l, 6), (.p, 7)] (by kernel_rfl) (by kernel_rfl) (by kernel_rfl) (by kernel_rfl) (by kernel_rfl) ?_
 replace hw := hw.drew
 refine zm rfl (zm rfl ?_)
 refine zp (o_slHiG (i) Tryz.underlying28 Tryz.sizeOf94 rfl rfl rfl (by omega)) ?_
 refine zm rfl (zm rfl ?_)
 refine zp (o_slLoG (i + 1) Tryz.underlying28 Tryz.sizeOf94 rfl rfl (by omega) (by omega)) ?_
 have ho := hown.d
 have e1 : (L.take i).length = i := by rw [List.length_take]; omega
 have e2 : (L.drop (i + 1)).length = L.length - (i + 1) := List.length_drop
 have e3 : (cutI L i).length = L.length - 1 := by unfold cutI; rw [List.length_append]; omega
 refine wl_appFit (X := gItem) Tryz.rowItem rfl (OwnS.take ho i (by omega)) e1.symm rfl (OwnS.drop ho (i + 1) (by omega)) e2.symm (by simp [gItem_tys]) gItem_one (by omega) ?_
 intro w26 f26 g26
 have hwl := (Below.refl lo w).drew.trans (g26.below hB (fun k hk => (hlt k hk).1))
 rw [show L.take i ++ L.drop (i + 1) = cutI L i from rfl] at f26 ⊢
 have hgr := grownBy_trans (grownBy_drew w (blk A)) g26.g
 clear hw hown ho
 refine za rfl ?_
 refine wl_nild ?_
 refine zs (zm rfl (zm rfl ?_))
 refine zp (o_len (t := 28) Tryz.underlying28 rfl) ?_
 refine zm rfl ?_
 refine zp (o_slBothG ((cutI L i).length) (L.length) Tryz.underlying28 Tryz.sizeOf94 rfl rfl rfl rfl rfl (by omega) (by omega)) ?_
 refine wl_clearS (X := gItem) Tryz.rowItem Tryz.zeroValue94 (by kernel_rfl) rfl f26 (Nat.le_refl _) (by omega) (by simp [gItem_tys]) ?_
 intro w31 f31 g31
 replace hwl := hwl.trans (g31.below (by have := hwl.size; omega) (fun k hk => (hlt k hk).1))
 replace hgr := grownBy_trans hgr g31.g
 clear f26
 refine wl_nil (zs (zm rfl (za rfl (wl_nil ?_))))
 refine ret1 rfl rfl ?_
 exact ⟨rfl, f31, ⟨hgr, hty⟩, hwl⟩
theorem K_delK {lo hi i : Nat} {A : Option Addr} {L : List Ky} {n c : Nat} {v1 v2 : Int} (w : World) (hown : OwnKs w lo hi A c L) (hn : n = L.length) (h1 : v1 = (i : Int)) (h2 : v2 = (i : Int) + 1) (hlen : L.length ≤ 100000) (hil : i < L.length) (hB : lo ≤ w.heap.size) :
  CallsR Tryz.prog 166 [.slice A n c, .int .i64 v1, .int .i64 v2] w fun v w' => v = .slice A (cutI L i).length c ∧ OwnKs w' lo hi A c (cutI L i) ∧ Grew w w' 42 (blk A) ∧ Below lo w w' := by
 subst hn; subst h1; subst h2
 have hlt : ∀ k, blk A = some k → lo ≤ k ∧ k < w.heap.size := by obtain ⟨xs, h1, _⟩ := hown; exact RowH.lt h1
 have hty : ∀ k, blk A = some k → TyAt w k 42 := by obtain ⟨xs, h1, _⟩ := hown; exact RowH.ty h1
 refine callsR Tryz.func166 rfl rfl (by kernel_rfl) rfl ?_
 have hw := Below.refl w.heap.size w
 have hcap := hown.cap
 refine zs (za rfl (wl_nil (zs (zm rfl (zm rfl (zm rfl (zm rfl ?_)))))))
 refine zp (o_len (t := 29) Tryz.underlying29 rfl) ?_
 refine zp (o_sl3G (i) (i + 1) (L.length) Tryz.underlying29 Tryz.sizeOf42 rfl rfl rfl rfl rfl (by omega) rfl (by omega) (by omega) (by omega)) ?_
 refine wl_nil (rk_seq (zs (zm rfl (zm rfl ?_))))
 refine zp (o_eq rfl rfl) ?_
 refine wl_nil ?_
 refine rk_if rfl (fun h16 => absurd h16 (by omega)) (fun h16 => ?_)
 refine rk_skip (zs (zm rfl ?_))
 refine zp (o_len (t := 29) Tryz.underlying29 rfl) ?_
 refine za rfl (wl_nil (rk_seq ?_))
 refine rk_draw (id := 5) (none) [0, 0, 3, 0, 0, 24, 36, 127] [0, 0, 3, 0, 0, 24, 63, 127] 64 0 [(.p, 0), (.p, 1), (.p, 2), (.p, 3), (.p, 4), (.p, 5), (.l, 6), (.p, 7)] (by kernel_rfl) (by kernel_rfl) (by kernel_rfl) (by kernel_rfl) (by kernel_rfl) ?_
 replace hw := hw.drew
 refine zm rfl (zm rfl ?_)
 refine zp (o_slHiG (i) Tryz.underlying29 Tryz.sizeOf42 rfl rfl rfl (by omega)) ?_
 refine zm rfl (zm rfl ?_)
 refine zp (o_slLoG (i + 1) Tryz.underlying29 Tryz.sizeOf42 rfl rfl (by omega) (by omega)) ?_
 have ho := hown.d
 have e1 : (L.take i).length = i := by rw [List.length_take]; omega
 have e2 : (L.drop (i + 1)).length = L.length - (i + 1) := List.length_drop
 have e3 : (cutI L i).length = L.length - 1 := by unfold cutI; rw [List.length_append]; omega
 refine wl_appFit (X := gArr 32) Tryz.rowKs rfl (OwnS.take ho i (by omega)) e1.symm rfl (OwnS.drop ho (i + 1) (by omega)) e2.symm (by simp [gArr_tys]) gKey_one (by omega) ?_
 intro w26 f26 g26
 have hwl := (Below.refl lo w).drew.trans (g26.below hB (fun k hk => (hlt k hk).1))
 rw [show L.take i ++ L.drop (i + 1) = cutI L i from rfl] at f26 ⊢
 have hgr := grownBy_trans (grownBy_drew w (blk A)) g26.g
 clear hw hown ho
 refine za rfl ?_
 refine wl_nild ?_
 refine zs (zm rfl (zm rfl ?_))
 refine zp (o_len (t := 29) Tryz.underlying29 rfl) ?_
 refine zm rfl ?_
 refine zp (o_slBothG ((cutI L i).length) (L.length) Tryz.underlying29 Tryz.sizeOf42 rfl rfl rfl rfl rfl (by omega) (by omega)) ?_
 refine wl_clearS (X := gArr 32) Tryz.rowKs Tryz.zeroValue42 (by kernel_rfl) rfl f26 (Nat.le_refl _) (by omega) (by simp [gArr_tys]) ?_
 intro w31 f31 g31
 replace hwl := hwl.trans (g31.below (by have := hwl.size; omega) (fun k hk => (hlt k hk).1))
 replace hgr := grownBy_trans hgr g31.g
 clear f26
 refine wl_nil (zs (zm rfl (za rfl (wl_nil ?_))))
 refine ret1 rfl rfl ?_
 exact ⟨rfl, f31, ⟨hgr, hty⟩, hwl⟩
end Go.Proofs.YtahkeoegbjopfaaGreat
namespace Go.Proofs.YtahkeoegbjopfaaGreat
set_option maxRecDepth 100000
open Go.RowKit
def addS (L : List Ky) (u : Ky) (most : Nat) : List Ky × Bool :=
 if u ∈ L ∨ most ≤ L.length then (L, false) else (L.take (low (L.map Subtype.val) u.1) ++ [u] ++ L.drop (low (L.map Subtype.val) u.1), true)
def dropS (L : List Ky) (u : Ky) (least : Nat) : List Ky × Bool :=
 if u ∉ L ∨ L.length ≤ least then (L, false) else (cutI L (low (L.map Subtype.val) u.1), true)
def putS (I : List (By × By)) (p q : By) : List (By × By) × Bool :=
 if p ∈ I.map Prod.fst then (I.set (low (I.map Prod.fst) p) (p, q), true)
 else if 1024 ≤ I.length then (I, false) else (I.take (low (I.map Prod.fst) p) ++ [(p, q)] ++ I.drop (low (I.map Prod.fst) p), true)
def delS (I : List (By × By)) (p : By) : List (By × By) × Bool :=
 if p ∈ I.map Prod.fst then (cutI I (low (I.map Prod.fst) p), true) else (I, false)
def doS (k : Int) (S : Stt) (p q : By) (u : Ky) : Stt × Bool :=
 if k = 1 then (((putS S.1 p q).1, S.2), (putS S.1 p q).2)
 else if k = 2 then (((delS S.1 p).1, S.2), (delS S.1 p).2)
 else if k = 3 then ((S.1, (addS S.2.1 u 16).1, S.2.2), (addS S.2.1 u 16).2)
 else if k = 4 then ((S.1, (dropS S.2.1 u 0).1, S.2.2), (dropS S.2.1 u 0).2)
 else if k = 5 then ((S.1, S.2.1, (addS S.2.2 u 16).1), (addS S.2.2 u 16).2)
 else ((S.1, S.2.1, (dropS S.2.2 u 1).1), (dropS S.2.2 u 1).2)
theorem RowH.rerange {w : World} {lo hi lo' hi' sz n c : Nat} {e : TypeId} {A : Option Addr} {xs : List Value} (h : RowH w lo hi e sz A n c xs) (hr : ∀ k, blk A = some k → lo' ≤ k ∧ k < hi') : RowH w lo' hi' e sz A n c xs :=
 ⟨⟨h.o.1, by
  rcases h.o.2 with h3 | ⟨g, cap, cur, h3, h4, h5⟩
  ·exact .inl h3
  ·refine .inr ⟨g, cap, cur, h3, ?_, h5⟩
   injection h3 with e1
   exact (hr g (by rw [e1]; rfl)).1⟩, fun k hk => (hr k hk).2⟩
theorem OwnKs.rerange {w : World} {lo hi lo' hi' c : Nat} {A : Option Addr} {L : List Ky} (h : OwnKs w lo hi A c L) (hr : ∀ k, blk A = some k → lo' ≤ k ∧ k < hi') : OwnKs w lo' hi' A c L := by obtain ⟨xs, h1, h2⟩ := h; exact ⟨xs, h1.rerange hr, h2⟩
structure StAt (w : World) (B g : Nat) (S : Stt) : Prop where
 ex : ∃ (A : Option Addr) (c : Nat) (A2 : Option Addr) (c2 : Nat) (A3 : Option Addr) (c3 : Nat), Blk w g 31 [.slice A S.1.length c, .slice A2 S.2.1.length c2, .slice A3 S.2.2.length c3] ∧ OwnI w B w.heap.size A c S.1 ∧ OwnKs w B w.heap.size A2 c2 S.2.1 ∧ OwnKs w B w.heap.size A3 c3 S.2.2 ∧ (∀ k, blk A2 = some k → blk A3 ≠ some k) ∧ B ≤ w.heap.size
structure StCh (B g : Nat) (w w' : World) : Prop where
 ex : ∃ w1 w2 r1 r2, Grew w w1 94 r1 ∧ Grew w1 w2 42 r2 ∧ Grew w2 w' 31 (some g) ∧ (∀ k, r1 = some k → B ≤ k) ∧ ∀ k, r2 = some k → B ≤ k
theorem Grew.of_below {w w' : World} {e : TypeId} {g : Nat} (h : Below w.heap.size w w') (ht : TyAt w g e) : Grew w w' e (some g) := ⟨grown_of_below h _, fun k hk => by injection hk with hk; subst hk; exact ht⟩
theorem Grew.none_ {w w' : World} {e : TypeId} (h : Below w.heap.size w w') : Grew w w' e none := ⟨grown_of_below h _, fun k hk => by cases hk⟩
theorem Grew.after {w w1 w' : World} {e : TypeId} {row : Option Nat} (h : Below w.heap.size w w1) (k : Grew w1 w' e row) (ht : ∀ b, row = some b → TyAt w b e) : Grew w w' e row := ⟨grownBy_trans (grown_of_below h _) k.g, ht⟩
theorem OwnI.ty {w : World} {lo hi c : Nat} {A : Option Addr} {L : List (By × By)} (h : OwnI w lo hi A c L) : ∀ k, blk A = some k → TyAt w k 94 := by obtain ⟨xs, h1, _⟩ := h; exact RowH.ty h1
theorem OwnI.rng {w : World} {lo hi c : Nat} {A : Option Addr} {L : List (By × By)} (h : OwnI w lo hi A c L) : ∀ k, blk A = some k → lo ≤ k ∧ k < hi := by obtain ⟨xs, h1, _⟩ := h; exact fun k hk => ⟨(RowH.lt h1 k hk).1, h1.hi k hk⟩
theorem OwnKs.rng {w : World} {lo hi c : Nat} {A : Option Addr} {L : List Ky} (h : OwnKs w lo hi A c L) : ∀ k, blk A = some k → lo ≤ k ∧ k < hi := by obtain ⟨xs, h1, _⟩ := h; exact fun k hk => ⟨(RowH.lt h1 k hk).1, h1.hi k hk⟩
theorem OwnKs.keepNe {w w' : World} {lo hi c : Nat} {row : Option Nat} {A1 : Option Addr} {L : List Ky} (h : OwnKs w lo hi A1 c L) (hg : Grew w w' 42 row) (hne : ∀ k, blk A1 = some k → row ≠ some k) : OwnKs w' lo hi A1 c L := by
 have hr := h.rng
 cases hA : blk A1 with
 | none => exact ((h.rerange (lo' := 0) (hi' := 0) (fun k hk => by rw [hA] at hk; cases hk)).q hg (fun k _ => .inr (Nat.zero_le _)) (by simp)).rerange (fun k hk => by rw [hA] at hk; cases hk)
 | some b => exact ((h.rerange (lo' := b) (hi' := b + 1) (fun k hk => by rw [hA] at hk; injection hk with hk; omega)).q hg (fun k hk => by
   have : k ≠ b := fun e => hne b hA (by rw [hk, e])
   omega) (by simp)).rerange (fun k hk => hr k hk)
theorem StAt.same {w w' : World} {B g : Nat} {S : Stt} (h : StAt w B g S) (hb : Below w.heap.size w w') : StAt w' B g S ∧ StCh B g w w' := by
 obtain ⟨A, c, A2, c2, A3, c3, f0, f1, f2, f3, f6, f7⟩ := h.ex
 have hs := hb.size
 exact ⟨⟨A, c, A2, c2, A3, c3, f0.u hb, (f1.u hb).base (Nat.le_refl _) hs, (f2.u hb).base (Nat.le_refl _) hs, (f3.u hb).base (Nat.le_refl _) hs, f6, by omega⟩, ⟨w, w, none, none, Grew.none_ (Below.refl _ _), Grew.none_ (Below.refl _ _), Grew.of_below hb f0.at_, fun k hk => (by cases hk), fun k hk => (by cases hk)⟩⟩
theorem K_doDelete {K V : Option Addr} {p : By} {n c m d B g : Nat} {k : Int} {u : Ky} {S : Stt} (w : World) (hS : StAt w B g S) (hK : Rd w K p) (hn : n = p.length) (hp : p.length ≤ 4000000) (hl : S.1.length ≤ 100000) (hL : LtI S.1) (hs : Srt (S.1.map Prod.fst)) :
  CallsR Tryz.prog 76 [.pointer (some ⟨g, 0, none⟩), .agg (opC k K n c V m d u).toArray] w fun v w' => v = .bool (delS S.1 p).2 ∧ StAt w' B g ((delS S.1 p).1, S.2) ∧ StCh B g w w' := by
 subst hn
 have hS0 := hS
 obtain ⟨I, X, Y⟩ := S
 obtain ⟨A, ca, A2, c2, A3, c3, f0, f1, f2, f3, q7, q8⟩ := hS.ex
 dsimp only at f0 f1 f2 f3 hl hL hs ⊢
 unfold delS
 refine callsR Tryz.func76 rfl rfl (by kernel_rfl) rfl ?_
 have hw := Below.refl w.heap.size w
 by_cases h : p ∈ I.map Prod.fst
 ·rw [if_pos h]
  obtain ⟨hk, e1⟩ := mem_low hs h
  refine zs ?_
  refine wl_boxg _ rfl (by rfl) ?_
  rintro g3 w3 f3_1 b3 i3 i3_1
  have s3 := b3.size
  replace hw := hw.trans (b3.mono hw.size)
  refine za rfl (wl_nil (rk_seq ?_))
  refine rk_draw (id := 1) (none) [0, 1, 2, 4, 0, 16, 40, 64, 128, 128, 511, 2047] [0, 1, 3, 7, 0, 16, 63, 127, 255, 255, 511, 2047] 64 0 [(.p, 0), (.p, 1), (.p, 2), (.r, 3), (.p, 4), (.r, 5), (.l, 6), (.p, 7), (.p, 8), (.p, 9), (.p, 10), (.p, 11)] (by kernel_rfl) (by kernel_rfl) (by kernel_rfl) (by kernel_rfl) (by kernel_rfl) ?_
  replace hw := hw.drew
  replace f3_1 := f3_1.d
  refine zm rfl ?_
  refine zp (o_nil rfl) ?_
  refine zp (o_faddr (s := 31) (i := 0) (off := 0) Tryz.underlying31 rfl Tryz.sizeOf28 rfl rfl rfl) ?_
  refine wl_r (o_loadbg Tryz.isAgg28 rfl (f0.u hw) (by rfl)) ?_
  refine zp (o_faddr (s := 54) (i := 1) (off := 1) Tryz.underlying54 rfl Tryz.sizeOf39 rfl rfl rfl) ?_
  refine wl_r (o_loadbg Tryz.isAgg39 rfl f3_1 (by rfl)) ?_
  refine wl_call rfl (C_find _ (f1.u hw).to_RI (hK.u hw) rfl rfl (by omega) (by omega) (by omega) (by omega)) ?_
  rintro v14 w14 ⟨rfl, b14⟩
  simp only [drew_size] at b14
  have s14 := b14.size
  simp only [drew_size] at s14
  replace hw := hw.trans (b14.mono hw.size)
  replace f3_1 := f3_1.u b14
  refine zm rfl ?_
  refine zp (o_ext20 rfl) ?_
  refine zp (o_ext21 rfl) ?_
  refine za rfl (za rfl ?_)
  refine wl_nild ?_
  refine rk_seq (zs (zm rfl (wl_nil ?_)))
  refine rk_if rfl (fun h17 => ?_) (fun h17 => h17.elim (by omega))
  refine rk_region (zm rfl (zm rfl ?_))
  refine zp (o_nil rfl) ?_
  refine zp (o_faddr (s := 31) (i := 0) (off := 0) Tryz.underlying31 rfl Tryz.sizeOf28 rfl rfl rfl) ?_
  refine wl_r (o_loadbg Tryz.isAgg28 rfl (f0.u hw) (by rfl)) ?_
  refine zm rfl (zm rfl ?_)
  refine zp (o_add rfl rfl (by omega) (by omega)) ?_
  refine wl_call rfl (K_delI w14 (f1.u hw) rfl rfl rfl hl hk (by have := hw.size; omega)) ?_
  rintro _ w26 ⟨rfl, f26, g26, b26⟩
  have f0b := (f0.u hw).y g26 (by decide)
  have f2b := (f2.u hw).y g26 (by decide)
  have f3b := (f3.u hw).y g26 (by decide)
  have hcg : Chg g (g + 1) w26 w26 := Chg.refl
  have hst := f0b.at_
  have hws := hw.size
  have hgs := g26.size
  refine zp (o_nil rfl) ?_
  refine zp (o_faddr (s := 31) (i := 0) (off := 0) Tryz.underlying31 rfl Tryz.sizeOf28 rfl rfl rfl) ?_
  refine wl_storeg1 Tryz.sizeOf28 rfl rfl (by rfl) f0b (by simp) ?_
  rintro w_1 f g_1 e
  have s := g_1.size
  replace hcg := hcg.trans (Chg.of_g1 g_1.g (by omega) (by omega))
  replace f3b := f3b.y g_1 (by decide)
  replace f2b := f2b.y g_1 (by decide)
  replace f26 := f26.y g_1 (by decide)
  clear f0b
  refine wl_nil (zs (zm rfl (za rfl (wl_nil ?_))))
  refine ret1 rfl rfl ?_
  have hcs := hcg.size
  exact ⟨by rw [decide_eq_true h], ⟨A, ca, A2, c2, A3, c3, f, f26.base (Nat.le_refl _) (by omega), f2b.base (Nat.le_refl _) (by omega), f3b.base (Nat.le_refl _) (by omega), q7, by omega⟩, ⟨w26, w26, blk A, none, Grew.after hw g26 f1.ty, Grew.none_ (Below.refl _ _), Grew.of_chg1 hcg hst, fun k hk => (f1.rng k hk).1, fun k hk => (by cases hk)⟩⟩
 ·rw [if_neg h]
  refine zs ?_
  refine wl_boxg _ rfl (by rfl) ?_
  rintro g3 w3 f3_1 b3 i3 i3_1
  have s3 := b3.size
  replace hw := hw.trans (b3.mono hw.size)
  refine za rfl (wl_nil (rk_seq ?_))
  refine rk_draw (id := 1) (none) [0, 1, 2, 4, 0, 16, 40, 64, 128, 128, 511, 2047] [0, 1, 3, 7, 0, 16, 63, 127, 255, 255, 511, 2047] 64 0 [(.p, 0), (.p, 1), (.p, 2), (.r, 3), (.p, 4), (.r, 5), (.l, 6), (.p, 7), (.p, 8), (.p, 9), (.p, 10), (.p, 11)] (by kernel_rfl) (by kernel_rfl) (by kernel_rfl) (by kernel_rfl) (by kernel_rfl) ?_
  replace hw := hw.drew
  replace f3_1 := f3_1.d
  refine zm rfl ?_
  refine zp (o_nil rfl) ?_
  refine zp (o_faddr (s := 31) (i := 0) (off := 0) Tryz.underlying31 rfl Tryz.sizeOf28 rfl rfl rfl) ?_
  refine wl_r (o_loadbg Tryz.isAgg28 rfl (f0.u hw) (by rfl)) ?_
  refine zp (o_faddr (s := 54) (i := 1) (off := 1) Tryz.underlying54 rfl Tryz.sizeOf39 rfl rfl rfl) ?_
  refine wl_r (o_loadbg Tryz.isAgg39 rfl f3_1 (by rfl)) ?_
  refine wl_call rfl (C_find _ (f1.u hw).to_RI (hK.u hw) rfl rfl (by omega) (by omega) (by omega) (by omega)) ?_
  rintro v14 w14 ⟨rfl, b14⟩
  simp only [drew_size] at b14
  have s14 := b14.size
  simp only [drew_size] at s14
  replace hw := hw.trans (b14.mono hw.size)
  replace f3_1 := f3_1.u b14
  refine zm rfl ?_
  refine zp (o_ext20 rfl) ?_
  refine zp (o_ext21 rfl) ?_
  refine za rfl (za rfl ?_)
  refine wl_nild ?_
  refine rk_seq (zs (zm rfl (wl_nil ?_)))
  refine rk_if rfl (fun h17 => absurd h17 (by omega)) (fun h17 => ?_)
  refine rk_skip (zs (zm rfl (za rfl (wl_nil ?_))))
  refine ret1 rfl rfl ?_
  exact ⟨by rw [decide_eq_false h], hS0.same hw⟩
end Go.Proofs.YtahkeoegbjopfaaGreat
