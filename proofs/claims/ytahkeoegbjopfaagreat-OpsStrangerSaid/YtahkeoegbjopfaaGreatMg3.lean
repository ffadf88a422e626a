/-
  Walks of the document's field: Times, Power.
-/
import Derived.Test.YtahkeoegbjopfaaGreatMg2
import Derived.Deep.Slices
namespace Go.Proofs.YtahkeoegbjopfaaGreat
set_option maxRecDepth 100000
open Go.RowKit
set_option maxRecDepth 100000 in
set_option maxHeartbeats 1000000 in
theorem C_f3Times {x y r : W10} (w : World) (hr : timesS x y = r) :
  CallsR Tryz.prog 154 [.agg (vI x.1).toArray, .agg (vI y.1).toArray] w fun v w' => v = .agg (vI r.1).toArray ∧ Below w.heap.size w w' := by
 have hx := x.2
 have hy := y.2
 refine callsR Tryz.func154 rfl rfl (by kernel_rfl) rfl ?_
 have hw := Below.refl w.heap.size w
 refine zs ?_
 refine wl_boxg _ rfl (by rfl) ?_
 rintro g2 w2 f2 b2 i2 i2_1
 have s2 := b2.size
 replace hw := hw.trans (b2.mono hw.size)
 refine wl_boxg _ rfl (by rfl) ?_
 rintro g3 w3 f3 b3 i3 i3_1
 have s3 := b3.size
 replace hw := hw.trans (b3.mono hw.size)
 replace f2 := f2.u b3
 refine wl_allocg [_, _, _, _, _, _, _, _, _, _] Tryz.zeroValue173 (by rfl) ?_
 rintro g4 w4 f4 b4 i4 i4_1
 have s4 := b4.size
 replace hw := hw.trans (b4.mono hw.size)
 replace f2 := f2.u b4
 replace f3 := f3.u b4
 refine wl_nil (zs ?_)
 refine wl_allocg [_, _, _, _, _, _, _, _, _, _] Tryz.zeroValue173 (by rfl) ?_
 rintro g5 w5 f5 b5 i5 i5_1
 have s5 := b5.size
 replace hw := hw.trans (b5.mono hw.size)
 replace f3 := f3.u b5
 replace f2 := f2.u b5
 replace f4 := f4.u b5
 refine wl_nil (rk_seq (zs (za rfl (wl_nil (rk_block ?_)))))
 have hg23 : g2 < g3 := by omega
 have hg34 : g3 < g4 := by omega
 have hg45 : g4 < g5 := by omega
 refine rk_joinf (fun fb fr V => ∃ (o : W10), fr = [] ++ fb.drop 1 ∧ o = foldN (tmO x y) 10 w10z ∧ Blk V g4 173 (vI (List.replicate 10 0)) ∧ Blk V g5 173 (vI o.1) ∧ Below w.heap.size w V) ?_ (fun ks hj => ?_)
 rotate_left
 ·refine rk_loopf (fun fb k fr V => ∃ (i : Nat) (v : Int) (o : W10), fr = [(6, .int .i64 v)] ++ fb.drop 1 ∧ v = i ∧ i ≤ 10 ∧ k = 10 - i ∧ o = foldN (tmO x y) i w10z ∧ Blk V g2 173 (vI x.1) ∧ Blk V g3 173 (vI y.1) ∧ Blk V g4 173 (vI (List.replicate 10 0)) ∧ Blk V g5 173 (vI o.1) ∧ Below w.heap.size w V) (n := 10) (Fr.le_of (by kernel_rfl) (by kernel_rfl) (by repeat' constructor)) ⟨0, _, w10z, rfl, rfl, by omega, rfl, rfl, f2, f3, f4, f5, hw⟩ ?_
  clear f2 f3 f4 f5 hw
  rintro k fr V ⟨i, v, o, rfl, rfl, hi, rfl, ho, f2, f3, f4, f5, hw⟩
  have shw := hw.size
  have hos : foldN (tmO x y) (i + 1) w10z = tmO x y o i := by rw [ho]; rfl
  first | refine zf ?_ | refine zg ?_
  by_cases hil : i < 10
  ·refine rk_seq ?_
   refine zs (zm rfl ?_)
   refine zp (o_lt rfl rfl) ?_
   refine wl_nil ?_
   refine rk_if rfl (fun h10 => ?_) (fun h10 => h10.elim (by omega))
   refine rk_skip (rk_seq (rk_block (zs (za rfl (wl_nil (rk_block ?_))))))
   refine rk_joinf (fun fb fr V2 => ∃ (q : W10), fr = [] ++ fb.drop 1 ∧ q = foldN (tmI x y i) 10 o ∧ Blk V2 g2 173 (vI x.1) ∧ Blk V2 g3 173 (vI y.1) ∧ Blk V2 g4 173 (vI (List.replicate 10 0)) ∧ Blk V2 g5 173 (vI q.1) ∧ Below w.heap.size w V2) ?_ (fun ks hj => ?_)
   rotate_left
   ·refine rk_loopf (fun fb k fr V2 => ∃ (m : Nat) (v : Int) (q : W10), fr = [(7, .int .i64 v)] ++ fb.drop 1 ∧ v = m ∧ m ≤ 10 ∧ k = 10 - m ∧ q = foldN (tmI x y i) m o ∧ Blk V2 g2 173 (vI x.1) ∧ Blk V2 g3 173 (vI y.1) ∧ Blk V2 g4 173 (vI (List.replicate 10 0)) ∧ Blk V2 g5 173 (vI q.1) ∧ Below w.heap.size w V2) (n := 10) (Fr.le_of (by kernel_rfl) (by kernel_rfl) (by repeat' constructor)) ⟨0, _, o, rfl, rfl, by omega, rfl, rfl, f2, f3, f4, f5, hw⟩ ?_
    clear f2 f3 f4 f5 hw
    rintro k fr V2 ⟨m, v, q, rfl, rfl, hm, rfl, hq, f2, f3, f4, f5, hw⟩
    have shw := hw.size
    have hql := q.2
    have hqs : foldN (tmI x y i) (m + 1) o = tmI x y i q m := by rw [hq]; rfl
    first | refine zf ?_ | refine zg ?_
    by_cases hmb : m < 10
    ·by_cases hi2 : i % 2 = 1
     ·by_cases hm2 : m % 2 = 1
      ·by_cases h9 : 9 < i + m
       ·refine rk_seq ?_
        refine zs (zm rfl ?_)
        refine zp (o_lt rfl rfl) ?_
        refine wl_nil ?_
        refine rk_if rfl (fun h14 => ?_) (fun h14 => h14.elim (by omega))
        refine rk_skip (rk_seq (rk_block (rk_seq ?_)))
        refine rk_draw (id := 8) (none) [0, 1, 2, 0, 8, 16, 36, 127] [0, 1, 3, 0, 8, 24, 63, 127] 0 0 [(.p, 0), (.p, 1), (.r, 2), (.p, 3), (.p, 4), (.r, 5), (.p, 6), (.p, 7)] (by kernel_rfl) (by kernel_rfl) (by kernel_rfl) (by kernel_rfl) (by kernel_rfl) ?_
        replace hw := hw.drew
        replace f5 := f5.d
        replace f4 := f4.d
        replace f3 := f3.d
        replace f2 := f2.d
        refine zm rfl ?_
        refine zp (o_iaddrP (i) Tryz.underlying173 Tryz.sizeOf2 rfl rfl rfl (by omega)) ?_
        refine wl_r (o_ldI Tryz.isAgg2 rfl f2 (by omega)) ?_
        refine zm rfl ?_
        refine zp (o_iaddrP (m) Tryz.underlying173 Tryz.sizeOf2 rfl rfl rfl (by omega)) ?_
        refine wl_r (o_ldI Tryz.isAgg2 rfl f3 (by omega)) ?_
        refine zp (o_mulI rfl rfl) ?_
        refine za rfl ?_
        refine wl_nild ?_
        refine rk_seq (zs (zm rfl ?_))
        refine zp (o_rem rfl rfl (by omega) (by omega)) ?_
        refine zp (o_eq rfl rfl) ?_
        refine zm rfl ?_
        refine wl_know 27 true rfl (decide_eq_true (by omega)) ?_
        refine zm rfl ?_
        refine zp (o_rem rfl rfl (by omega) (by omega)) ?_
        refine zp (o_eq rfl rfl) ?_
        refine zp (o_pick_t rfl rfl) ?_
        refine wl_nil ?_
        refine rk_if rfl (fun h31 => ?_) (fun h31 => h31.elim (by omega))
        refine rk_region (zm rfl ?_)
        refine zp (o_mulI rfl rfl) ?_
        refine za rfl (wl_nil (rk_seq (zs (zm rfl (zm rfl ?_)))))
        refine zp (o_add rfl rfl (by omega) (by omega)) ?_
        refine zp (o_gt rfl rfl) ?_
        refine wl_nil ?_
        refine rk_if rfl (fun h37 => ?_) (fun h37 => h37.elim (by omega))
        refine rk_region (zm rfl ?_)
        refine zp (o_mulI rfl rfl) ?_
        refine za rfl (wl_nil (rk_region (zm rfl (zm rfl ?_))))
        refine zp (o_add rfl rfl (by omega) (by omega)) ?_
        refine zp (o_rem rfl rfl (by omega) (by omega)) ?_
        refine zm rfl (zm rfl ?_)
        refine zp (o_add rfl rfl (by omega) (by omega)) ?_
        refine zp (o_rem rfl rfl (by omega) (by omega)) ?_
        refine zp (o_iaddrP ((i + m) % 10) Tryz.underlying173 Tryz.sizeOf2 rfl rfl (by omega) (by omega)) ?_
        refine wl_r (o_ldI Tryz.isAgg2 rfl f5 (by omega)) ?_
        refine zm rfl ?_
        refine zp (o_addI rfl rfl) ?_
        refine zp (o_iaddrP ((i + m) % 10) Tryz.underlying173 Tryz.sizeOf2 rfl rfl (by omega) (by omega)) ?_
        refine wl_stI Tryz.sizeOf2 rfl f5 rfl (by omega) ?_
        rintro w_1 f g e
        simp only [drew_size] at e
        have s := g.size
        simp only [drew_size] at s
        replace hw := hw.trans (below_of_grownBy g.g hw.size (by omega))
        replace f2 := f2.k g.g (ap_some (by omega))
        replace f3 := f3.k g.g (ap_some (by omega))
        replace f4 := f4.k g.g (ap_some (by omega))
        clear f5
        refine wl_nil ?_
        refine rk_blk ?_
        refine rk_region (zm rfl ?_)
        refine zp (o_add rfl rfl (by omega) (by omega)) ?_
        refine za rfl (wl_nil ?_)
        exact rk_againf (Fr.le_of (by kernel_rfl) (by kernel_rfl) (by repeat' constructor)) ⟨m + 1, (m : Int) + 1, _, rfl, by omega, by omega, rfl, rfl, f2, f3, f4, by rw [hqs]; unfold tmI tm2 tm1; rw [if_pos h9, if_pos ⟨hi2, hm2⟩]; assumption, hw⟩ (by omega)
       ·refine rk_seq ?_
        refine zs (zm rfl ?_)
        refine zp (o_lt rfl rfl) ?_
        refine wl_nil ?_
        refine rk_if rfl (fun h14 => ?_) (fun h14 => h14.elim (by omega))
        refine rk_skip (rk_seq (rk_block (rk_seq ?_)))
        refine rk_draw (id := 8) (none) [0, 1, 2, 0, 8, 16, 36, 127] [0, 1, 3, 0, 8, 24, 63, 127] 0 0 [(.p, 0), (.p, 1), (.r, 2), (.p, 3), (.p, 4), (.r, 5), (.p, 6), (.p, 7)] (by kernel_rfl) (by kernel_rfl) (by kernel_rfl) (by kernel_rfl) (by kernel_rfl) ?_
        replace hw := hw.drew
        replace f5 := f5.d
        replace f4 := f4.d
        replace f3 := f3.d
        replace f2 := f2.d
        refine zm rfl ?_
        refine zp (o_iaddrP (i) Tryz.underlying173 Tryz.sizeOf2 rfl rfl rfl (by omega)) ?_
        refine wl_r (o_ldI Tryz.isAgg2 rfl f2 (by omega)) ?_
        refine zm rfl ?_
        refine zp (o_iaddrP (m) Tryz.underlying173 Tryz.sizeOf2 rfl rfl rfl (by omega)) ?_
        refine wl_r (o_ldI Tryz.isAgg2 rfl f3 (by omega)) ?_
        refine zp (o_mulI rfl rfl) ?_
        refine za rfl ?_
        refine wl_nild ?_
        refine rk_seq (zs (zm rfl ?_))
        refine zp (o_rem rfl rfl (by omega) (by omega)) ?_
        refine zp (o_eq rfl rfl) ?_
        refine zm rfl ?_
        refine wl_know 27 true rfl (decide_eq_true (by omega)) ?_
        refine zm rfl ?_
        refine zp (o_rem rfl rfl (by omega) (by omega)) ?_
        refine zp (o_eq rfl rfl) ?_
        refine zp (o_pick_t rfl rfl) ?_
        refine wl_nil ?_
        refine rk_if rfl (fun h31 => ?_) (fun h31 => h31.elim (by omega))
        refine rk_region (zm rfl ?_)
        refine zp (o_mulI rfl rfl) ?_
        refine za rfl (wl_nil (rk_seq (zs (zm rfl (zm rfl ?_)))))
        refine zp (o_add rfl rfl (by omega) (by omega)) ?_
        refine zp (o_gt rfl rfl) ?_
        refine wl_nil ?_
        refine rk_if rfl (fun h37 => absurd h37 (by omega)) (fun h37 => ?_)
        refine rk_skip (rk_region (zm rfl (zm rfl ?_)))
        refine zp (o_add rfl rfl (by omega) (by omega)) ?_
        refine zp (o_rem rfl rfl (by omega) (by omega)) ?_
        refine zm rfl (zm rfl ?_)
        refine zp (o_add rfl rfl (by omega) (by omega)) ?_
        refine zp (o_rem rfl rfl (by omega) (by omega)) ?_
        refine zp (o_iaddrP ((i + m) % 10) Tryz.underlying173 Tryz.sizeOf2 rfl rfl (by omega) (by omega)) ?_
        refine wl_r (o_ldI Tryz.isAgg2 rfl f5 (by omega)) ?_
        refine zm rfl ?_
        refine zp (o_addI rfl rfl) ?_
        refine zp (o_iaddrP ((i + m) % 10) Tryz.underlying173 Tryz.sizeOf2 rfl rfl (by omega) (by omega)) ?_
        refine wl_stI Tryz.sizeOf2 rfl f5 rfl (by omega) ?_
        rintro w_1 f g e
        simp only [drew_size] at e
        have s := g.size
        simp only [drew_size] at s
        replace hw := hw.trans (below_of_grownBy g.g hw.size (by omega))
        replace f2 := f2.k g.g (ap_some (by omega))
        replace f3 := f3.k g.g (ap_some (by omega))
        replace f4 := f4.k g.g (ap_some (by omega))
        clear f5
        refine wl_nil ?_
        refine rk_blk ?_
        refine rk_region (zm rfl ?_)
        refine zp (o_add rfl rfl (by omega) (by omega)) ?_
        refine za rfl (wl_nil ?_)
        exact rk_againf (Fr.le_of (by kernel_rfl) (by kernel_rfl) (by repeat' constructor)) ⟨m + 1, (m : Int) + 1, _, rfl, by omega, by omega, rfl, rfl, f2, f3, f4, by rw [hqs]; unfold tmI tm2 tm1; rw [if_neg h9, if_pos ⟨hi2, hm2⟩]; assumption, hw⟩ (by omega)
      ·by_cases h9 : 9 < i + m
       ·refine rk_seq ?_
        refine zs (zm rfl ?_)
        refine zp (o_lt rfl rfl) ?_
        refine wl_nil ?_
        refine rk_if rfl (fun h14 => ?_) (fun h14 => h14.elim (by omega))
        refine rk_skip (rk_seq (rk_block (rk_seq ?_)))
        refine rk_draw (id := 8) (none) [0, 1, 2, 0, 8, 16, 36, 127] [0, 1, 3, 0, 8, 24, 63, 127] 0 0 [(.p, 0), (.p, 1), (.r, 2), (.p, 3), (.p, 4), (.r, 5), (.p, 6), (.p, 7)] (by kernel_rfl) (by kernel_rfl) (by kernel_rfl) (by kernel_rfl) (by kernel_rfl) ?_
        replace hw := hw.drew
        replace f5 := f5.d
        replace f4 := f4.d
        replace f3 := f3.d
        replace f2 := f2.d
        refine zm rfl ?_
        refine zp (o_iaddrP (i) Tryz.underlying173 Tryz.sizeOf2 rfl rfl rfl (by omega)) ?_
        refine wl_r (o_ldI Tryz.isAgg2 rfl f2 (by omega)) ?_
        refine zm rfl ?_
        refine zp (o_iaddrP (m) Tryz.underlying173 Tryz.sizeOf2 rfl rfl rfl (by omega)) ?_
        refine wl_r (o_ldI Tryz.isAgg2 rfl f3 (by omega)) ?_
        refine zp (o_mulI rfl rfl) ?_
        refine za rfl ?_
        refine wl_nild ?_
        refine rk_seq (zs (zm rfl ?_))
        refine zp (o_rem rfl rfl (by omega) (by omega)) ?_
        refine zp (o_eq rfl rfl) ?_
        refine zm rfl ?_
        refine wl_know 27 true rfl (decide_eq_true (by omega)) ?_
        refine zm rfl ?_
        refine zp (o_rem rfl rfl (by omega) (by omega)) ?_
        refine zp (o_eq rfl rfl) ?_
        refine zp (o_pick_t rfl rfl) ?_
        refine wl_nil ?_
        refine rk_if rfl (fun h31 => absurd h31 (by omega)) (fun h31 => ?_)
        refine rk_skip (rk_seq (zs (zm rfl (zm rfl ?_))))
        refine zp (o_add rfl rfl (by omega) (by omega)) ?_
        refine zp (o_gt rfl rfl) ?_
        refine wl_nil ?_
        refine rk_if rfl (fun h37 => ?_) (fun h37 => h37.elim (by omega))
        refine rk_region (zm rfl ?_)
        refine zp (o_mulI rfl rfl) ?_
        refine za rfl (wl_nil (rk_region (zm rfl (zm rfl ?_))))
        refine zp (o_add rfl rfl (by omega) (by omega)) ?_
        refine zp (o_rem rfl rfl (by omega) (by omega)) ?_
        refine zm rfl (zm rfl ?_)
        refine zp (o_add rfl rfl (by omega) (by omega)) ?_
        refine zp (o_rem rfl rfl (by omega) (by omega)) ?_
        refine zp (o_iaddrP ((i + m) % 10) Tryz.underlying173 Tryz.sizeOf2 rfl rfl (by omega) (by omega)) ?_
        refine wl_r (o_ldI Tryz.isAgg2 rfl f5 (by omega)) ?_
        refine zm rfl ?_
        refine zp (o_addI rfl rfl) ?_
        refine zp (o_iaddrP ((i + m) % 10) Tryz.underlying173 Tryz.sizeOf2 rfl rfl (by omega) (by omega)) ?_
        refine wl_stI Tryz.sizeOf2 rfl f5 rfl (by omega) ?_
        rintro w_1 f g e
        simp only [drew_size] at e
        have s := g.size
        simp only [drew_size] at s
        replace hw := hw.trans (below_of_grownBy g.g hw.size (by omega))
        replace f2 := f2.k g.g (ap_some (by omega))
        replace f3 := f3.k g.g (ap_some (by omega))
        replace f4 := f4.k g.g (ap_some (by omega))
        clear f5
        refine wl_nil ?_
        refine rk_blk ?_
        refine rk_region (zm rfl ?_)
        refine zp (o_add rfl rfl (by omega) (by omega)) ?_
        refine za rfl (wl_nil ?_)
        exact rk_againf (Fr.le_of (by kernel_rfl) (by kernel_rfl) (by repeat' constructor)) ⟨m + 1, (m : Int) + 1, _, rfl, by omega, by omega, rfl, rfl, f2, f3, f4, by rw [hqs]; unfold tmI tm2 tm1; rw [if_pos h9, if_neg (fun h => hm2 h.2)]; assumption, hw⟩ (by omega)
       ·refine rk_seq ?_
        refine zs (zm rfl ?_)
        refine zp (o_lt rfl rfl) ?_
        refine wl_nil ?_
        refine rk_if rfl (fun h14 => ?_) (fun h14 => h14.elim (by omega))
        refine rk_skip (rk_seq (rk_block (rk_seq ?_)))
        refine rk_draw (id := 8) (none) [0, 1, 2, 0, 8, 16, 36, 127] [0, 1, 3, 0, 8, 24, 63, 127] 0 0 [(.p, 0), (.p, 1), (.r, 2), (.p, 3), (.p, 4), (.r, 5), (.p, 6), (.p, 7)] (by kernel_rfl) (by kernel_rfl) (by kernel_rfl) (by kernel_rfl) (by kernel_rfl) ?_
        replace hw := hw.drew
        replace f5 := f5.d
        replace f4 := f4.d
        replace f3 := f3.d
        replace f2 := f2.d
        refine zm rfl ?_
        refine zp (o_iaddrP (i) Tryz.underlying173 Tryz.sizeOf2 rfl rfl rfl (by omega)) ?_
        refine wl_r (o_ldI Tryz.isAgg2 rfl f2 (by omega)) ?_
        refine zm rfl ?_
        refine zp (o_iaddrP (m) Tryz.underlying173 Tryz.sizeOf2 rfl rfl rfl (by omega)) ?_
        refine wl_r (o_ldI Tryz.isAgg2 rfl f3 (by omega)) ?_
        refine zp (o_mulI rfl rfl) ?_
        refine za rfl ?_
        refine wl_nild ?_
        refine rk_seq (zs (zm rfl ?_))
        refine zp (o_rem rfl rfl (by omega) (by omega)) ?_
        refine zp (o_eq rfl rfl) ?_
        refine zm rfl ?_
        refine wl_know 27 true rfl (decide_eq_true (by omega)) ?_
        refine zm rfl ?_
        refine zp (o_rem rfl rfl (by omega) (by omega)) ?_
        refine zp (o_eq rfl rfl) ?_
        refine zp (o_pick_t rfl rfl) ?_
        refine wl_nil ?_
        refine rk_if rfl (fun h31 => absurd h31 (by omega)) (fun h31 => ?_)
        refine rk_skip (rk_seq (zs (zm rfl (zm rfl ?_))))
        refine zp (o_add rfl rfl (by omega) (by omega)) ?_
        refine zp (o_gt rfl rfl) ?_
        refine wl_nil ?_
        refine rk_if rfl (fun h37 => absurd h37 (by omega)) (fun h37 => ?_)
        refine rk_skip (rk_region (zm rfl (zm rfl ?_)))
        refine zp (o_add rfl rfl (by omega) (by omega)) ?_
        refine zp (o_rem rfl rfl (by omega) (by omega)) ?_
        refine zm rfl (zm rfl ?_)
        refine zp (o_add rfl rfl (by omega) (by omega)) ?_
        refine zp (o_rem rfl rfl (by omega) (by omega)) ?_
        refine zp (o_iaddrP ((i + m) % 10) Tryz.underlying173 Tryz.sizeOf2 rfl rfl (by omega) (by omega)) ?_
        refine wl_r (o_ldI Tryz.isAgg2 rfl f5 (by omega)) ?_
        refine zm rfl ?_
        refine zp (o_addI rfl rfl) ?_
        refine zp (o_iaddrP ((i + m) % 10) Tryz.underlying173 Tryz.sizeOf2 rfl rfl (by omega) (by omega)) ?_
        refine wl_stI Tryz.sizeOf2 rfl f5 rfl (by omega) ?_
        rintro w_1 f g e
        simp only [drew_size] at e
        have s := g.size
        simp only [drew_size] at s
        replace hw := hw.trans (below_of_grownBy g.g hw.size (by omega))
        replace f2 := f2.k g.g (ap_some (by omega))
        replace f3 := f3.k g.g (ap_some (by omega))
        replace f4 := f4.k g.g (ap_some (by omega))
        clear f5
        refine wl_nil ?_
        refine rk_blk ?_
        refine rk_region (zm rfl ?_)
        refine zp (o_add rfl rfl (by omega) (by omega)) ?_
        refine za rfl (wl_nil ?_)
        exact rk_againf (Fr.le_of (by kernel_rfl) (by kernel_rfl) (by repeat' constructor)) ⟨m + 1, (m : Int) + 1, _, rfl, by omega, by omega, rfl, rfl, f2, f3, f4, by rw [hqs]; unfold tmI tm2 tm1; rw [if_neg h9, if_neg (fun h => hm2 h.2)]; assumption, hw⟩ (by omega)
     ·by_cases h9 : 9 < i + m
      ·refine rk_seq ?_
       refine zs (zm rfl ?_)
       refine zp (o_lt rfl rfl) ?_
       refine wl_nil ?_
       refine rk_if rfl (fun h14 => ?_) (fun h14 => h14.elim (by omega))
       refine rk_skip (rk_seq (rk_block (rk_seq ?_)))
       refine rk_draw (id := 8) (none) [0, 1, 2, 0, 8, 16, 36, 127] [0, 1, 3, 0, 8, 24, 63, 127] 0 0 [(.p, 0), (.p, 1), (.r, 2), (.p, 3), (.p, 4), (.r, 5), (.p, 6), (.p, 7)] (by kernel_rfl) (by kernel_rfl) (by kernel_rfl) (by kernel_rfl) (by kernel_rfl) ?_
       replace hw := hw.drew
       replace f5 := f5.d
       replace f4 := f4.d
       replace f3 := f3.d
       replace f2 := f2.d
       refine zm rfl ?_
       refine zp (o_iaddrP (i) Tryz.underlying173 Tryz.sizeOf2 rfl rfl rfl (by omega)) ?_
       refine wl_r (o_ldI Tryz.isAgg2 rfl f2 (by omega)) ?_
       refine zm rfl ?_
       refine zp (o_iaddrP (m) Tryz.underlying173 Tryz.sizeOf2 rfl rfl rfl (by omega)) ?_
       refine wl_r (o_ldI Tryz.isAgg2 rfl f3 (by omega)) ?_
       refine zp (o_mulI rfl rfl) ?_
       refine za rfl ?_
       refine wl_nild ?_
       refine rk_seq (zs (zm rfl ?_))
       refine zp (o_rem rfl rfl (by omega) (by omega)) ?_
       refine zp (o_eq rfl rfl) ?_
       refine zm rfl ?_
       refine wl_know 27 false rfl (decide_eq_false (by omega)) ?_
       refine wl_off (wl_off (wl_off ?_))
       refine zp (o_pick_f rfl rfl) ?_
       refine wl_nil ?_
       refine rk_false rfl ?_
       refine rk_skip (rk_seq (zs (zm rfl (zm rfl ?_))))
       refine zp (o_add rfl rfl (by omega) (by omega)) ?_
       refine zp (o_gt rfl rfl) ?_
       refine wl_nil ?_
       refine rk_if rfl (fun h37 => ?_) (fun h37 => h37.elim (by omega))
       refine rk_region (zm rfl ?_)
       refine zp (o_mulI rfl rfl) ?_
       refine za rfl (wl_nil (rk_region (zm rfl (zm rfl ?_))))
       refine zp (o_add rfl rfl (by omega) (by omega)) ?_
       refine zp (o_rem rfl rfl (by omega) (by omega)) ?_
       refine zm rfl (zm rfl ?_)
       refine zp (o_add rfl rfl (by omega) (by omega)) ?_
       refine zp (o_rem rfl rfl (by omega) (by omega)) ?_
       refine zp (o_iaddrP ((i + m) % 10) Tryz.underlying173 Tryz.sizeOf2 rfl rfl (by omega) (by omega)) ?_
       refine wl_r (o_ldI Tryz.isAgg2 rfl f5 (by omega)) ?_
       refine zm rfl ?_
       refine zp (o_addI rfl rfl) ?_
       refine zp (o_iaddrP ((i + m) % 10) Tryz.underlying173 Tryz.sizeOf2 rfl rfl (by omega) (by omega)) ?_
       refine wl_stI Tryz.sizeOf2 rfl f5 rfl (by omega) ?_
       rintro w_1 f g e
       simp only [drew_size] at e
       have s := g.size
       simp only [drew_size] at s
       replace hw := hw.trans (below_of_grownBy g.g hw.size (by omega))
       replace f2 := f2.k g.g (ap_some (by omega))
       replace f3 := f3.k g.g (ap_some (by omega))
       replace f4 := f4.k g.g (ap_some (by omega))
       clear f5
       refine wl_nil ?_
       refine rk_blk ?_
       refine rk_region (zm rfl ?_)
       refine zp (o_add rfl rfl (by omega) (by omega)) ?_
       refine za rfl (wl_nil ?_)
       exact rk_againf (Fr.le_of (by kernel_rfl) (by kernel_rfl) (by repeat' constructor)) ⟨m + 1, (m : Int) + 1, _, rfl, by omega, by omega, rfl, rfl, f2, f3, f4, by rw [hqs]; unfold tmI tm2 tm1; rw [if_pos h9, if_neg (fun h => hi2 h.1)]; assumption, hw⟩ (by omega)
      ·refine rk_seq ?_
       refine zs (zm rfl ?_)
       refine zp (o_lt rfl rfl) ?_
       refine wl_nil ?_
       refine rk_if rfl (fun h14 => ?_) (fun h14 => h14.elim (by omega))
       refine rk_skip (rk_seq (rk_block (rk_seq ?_)))
       refine rk_draw (id := 8) (none) [0, 1, 2, 0, 8, 16, 36, 127] [0, 1, 3, 0, 8, 24, 63, 127] 0 0 [(.p, 0), (.p, 1), (.r, 2), (.p, 3), (.p, 4), (.r, 5), (.p, 6), (.p, 7)] (by kernel_rfl) (by kernel_rfl) (by kernel_rfl) (by kernel_rfl) (by kernel_rfl) ?_
       replace hw := hw.drew
       replace f5 := f5.d
       replace f4 := f4.d
       replace f3 := f3.d
       replace f2 := f2.d
       refine zm rfl ?_
       refine zp (o_iaddrP (i) Tryz.underlying173 Tryz.sizeOf2 rfl rfl rfl (by omega)) ?_
       refine wl_r (o_ldI Tryz.isAgg2 rfl f2 (by omega)) ?_
       refine zm rfl ?_
       refine zp (o_iaddrP (m) Tryz.underlying173 Tryz.sizeOf2 rfl rfl rfl (by omega)) ?_
       refine wl_r (o_ldI Tryz.isAgg2 rfl f3 (by omega)) ?_
       refine zp (o_mulI rfl rfl) ?_
       refine za rfl ?_
       refine wl_nild ?_
       refine rk_seq (zs (zm rfl ?_))
       refine zp (o_rem rfl rfl (by omega) (by omega)) ?_
       refine zp (o_eq rfl rfl) ?_
       refine zm rfl ?_
       refine wl_know 27 false rfl (decide_eq_false (by omega)) ?_
       refine wl_off (wl_off (wl_off ?_))
       refine zp (o_pick_f rfl rfl) ?_
       refine wl_nil ?_
       refine rk_false rfl ?_
       refine rk_skip (rk_seq (zs (zm rfl (zm rfl ?_))))
       refine zp (o_add rfl rfl (by omega) (by omega)) ?_
       refine zp (o_gt rfl rfl) ?_
       refine wl_nil ?_
       refine rk_if rfl (fun h37 => absurd h37 (by omega)) (fun h37 => ?_)
       refine rk_skip (rk_region (zm rfl (zm rfl ?_)))
       refine zp (o_add rfl rfl (by omega) (by omega)) ?_
       refine zp (o_rem rfl rfl (by omega) (by omega)) ?_
       refine zm rfl (zm rfl ?_)
       refine zp (o_add rfl rfl (by omega) (by omega)) ?_
       refine zp (o_rem rfl rfl (by omega) (by omega)) ?_
       refine zp (o_iaddrP ((i + m) % 10) Tryz.underlying173 Tryz.sizeOf2 rfl rfl (by omega) (by omega)) ?_
       refine wl_r (o_ldI Tryz.isAgg2 rfl f5 (by omega)) ?_
       refine zm rfl ?_
       refine zp (o_addI rfl rfl) ?_
       refine zp (o_iaddrP ((i + m) % 10) Tryz.underlying173 Tryz.sizeOf2 rfl rfl (by omega) (by omega)) ?_
       refine wl_stI Tryz.sizeOf2 rfl f5 rfl (by omega) ?_
       rintro w_1 f g e
       simp only [drew_size] at e
       have s := g.size
       simp only [drew_size] at s
       replace hw := hw.trans (below_of_grownBy g.g hw.size (by omega))
       replace f2 := f2.k g.g (ap_some (by omega))
       replace f3 := f3.k g.g (ap_some (by omega))
       replace f4 := f4.k g.g (ap_some (by omega))
       clear f5
       refine wl_nil ?_
       refine rk_blk ?_
       refine rk_region (zm rfl ?_)
       refine zp (o_add rfl rfl (by omega) (by omega)) ?_
       refine za rfl (wl_nil ?_)
       exact rk_againf (Fr.le_of (by kernel_rfl) (by kernel_rfl) (by repeat' constructor)) ⟨m + 1, (m : Int) + 1, _, rfl, by omega, by omega, rfl, rfl, f2, f3, f4, by rw [hqs]; unfold tmI tm2 tm1; rw [if_neg h9, if_neg (fun h => hi2 h.1)]; assumption, hw⟩ (by omega)
    ·refine rk_seq ?_
     refine zs (zm rfl ?_)
     refine zp (o_lt rfl rfl) ?_
     refine wl_nil ?_
     refine rk_if rfl (fun h14 => absurd h14 (by omega)) (fun h14 => ?_)
     refine rk_exit rfl ?_
     obtain rfl : m = 10 := by omega
     exact rk_tof hj (Fr.le_of (by kernel_rfl) (by kernel_rfl) (by repeat' constructor)) ⟨q, rfl, hq, f2, f3, f4, f5, hw⟩
   clear f2 f3 f4 f5 hw
   rintro fr V2 ⟨q, rfl, hq, f2, f3, f4, f5, hw⟩
   have shw := hw.size
   have hql := q.2
   have hoq : tmO x y o i = q := by rw [hq]; rfl
   first | refine zf ?_ | refine zg ?_
   refine rk_blk ?_
   refine rk_region (zm rfl ?_)
   refine zp (o_add rfl rfl (by omega) (by omega)) ?_
   refine za rfl (wl_nil ?_)
   exact rk_againf (Fr.le_of (by kernel_rfl) (by kernel_rfl) (by repeat' constructor)) ⟨i + 1, (i : Int) + 1, _, rfl, by omega, by omega, rfl, rfl, f2, f3, f4, by rw [hos, hoq]; exact f5, hw⟩ (by omega)
  ·refine rk_seq ?_
   refine zs (zm rfl ?_)
   refine zp (o_lt rfl rfl) ?_
   refine wl_nil ?_
   refine rk_if rfl (fun h10 => absurd h10 (by omega)) (fun h10 => ?_)
   refine rk_exit rfl ?_
   obtain rfl : i = 10 := by omega
   exact rk_tof hj (Fr.le_of (by kernel_rfl) (by kernel_rfl) (by repeat' constructor)) ⟨o, rfl, ho, f4, f5, hw⟩
 clear f2 f3 f4 f5 hw
 rintro fr V ⟨o, rfl, ho, f4, f5, hw⟩
 have shw := hw.size
 have hol := o.2
 obtain ⟨o1, h1⟩ : ∃ q, carryS o = q := ⟨_, rfl⟩
 have h2 : carryS o1 = r := by rw [← h1, ho]; exact hr
 first | refine zf ?_ | refine zg ?_
 refine zs ?_
 refine wl_r (o_loadag Tryz.isAgg173 Tryz.sizeOf173 rfl f5 vI10) ?_
 refine wl_call rfl (C_f3carry _ h1) ?_
 rintro v54 w54 ⟨rfl, b54⟩
 have s54 := b54.size
 replace hw := hw.trans (b54.mono hw.size)
 replace f5 := f5.u b54
 replace f4 := f4.u b54
 refine wl_call rfl (C_f3carry _ h2) ?_
 rintro v55 w55 ⟨rfl, b55⟩
 have s55 := b55.size
 replace hw := hw.trans (b55.mono hw.size)
 replace f4 := f4.u b55
 replace f5 := f5.u b55
 refine wl_stIa Tryz.sizeOf173 rfl f4 rfl (by omega) (by rfl) ?_
 rintro w_1 f g e
 have s := g.size
 replace hw := hw.trans (below_of_grownBy g.g hw.size (by omega))
 replace f5 := f5.k g.g (ap_some (by omega))
 clear f4
 refine wl_nil ?_
 refine ret_cell rfl rfl Tryz.isAgg173 Tryz.sizeOf173 (by assumption) (by first | exact vI10 | exact b32 | exact ptC_len _ | exact frC_len _ | rfl) ?_
 exact ⟨rfl, hw⟩
end Go.Proofs.YtahkeoegbjopfaaGreat
namespace Go.Proofs.YtahkeoegbjopfaaGreat
set_option maxRecDepth 100000
open Go.RowKit
theorem foldN_succ {α : Type} (f : α → Nat → α) (n : Nat) (s : α) : foldN f (n + 1) s = f (foldN f n s) n := rfl
section
variable {fn : Func} {F : Ending → World → Prop} {N : Nat} {ks : List K} {ops : Array Oper} {tg : Tags} {l : List Oper} {fr : Fr} {w : World} {ty t t' : TypeId} {pos : String} {aft : Array Edge} {gd : Option (Nat × Bool)} {g i : Nat} {x y : Operand} {m : Int}
theorem wl_stL8 {c : List UInt8} (hs : ∀ w, (sizeOf t).run Tryz.prog w = .ok 1 w) (hx : fr.ev x = some (.pointer (some ⟨g, i, none⟩))) (hB : Blk w g t' (B8 c)) (hy : fr.ev y = some (.int .u8 m)) (h0 : 0 ≤ m) (h1 : m < 256) (hi : i < c.length)
  (hk : ∀ w', Blk w' g t' (B8 (c.set i (lo8 m))) → Grew w w' t' (some g) → w'.heap.size = w.heap.size → WL Tryz.prog fn F N ks ops tg.tail l fr w') (ht : tg.loud = true := by rfl) (hg : onG ops fr gd = true := by rfl) (hq : tg.calm = false ∨ tg.rw.may (some g) := by exact .inl rfl) :
  WL Tryz.prog fn F N ks ops tg (⟨none, .store t x y, ty, pos, aft, gd⟩ :: l) fr w :=
 wl_stB hs hx hB (u := lo8 m) (by rw [lo8_of h0 h1]; exact hy) hi hk ht hg hq
end
set_option maxRecDepth 100000 in
set_option maxHeartbeats 1000000 in
theorem C_f3Power {x r : W10} {e : N32} (w : World) (hr : powerS x e = r) :
  CallsR Tryz.prog 177 [.agg (vI x.1).toArray, .agg (B8 e.1).toArray] w fun v w' => v = .agg (vI r.1).toArray ∧ Below w.heap.size w w' := by
 have hx := x.2
 have he := e.2
 refine callsR Tryz.func177 rfl rfl (by kernel_rfl) rfl ?_
 have hw := Below.refl w.heap.size w
 refine zs ?_
 refine wl_boxg _ rfl (by rfl) ?_
 rintro g2 w2 f2 b2 i2 i2_1
 have s2 := b2.size
 replace hw := hw.trans (b2.mono hw.size)
 refine wl_boxg _ rfl (by rfl) ?_
 rintro g3 w3 f3 b3 i3 i3_1
 have s3 := b3.size
 replace hw := hw.trans (b3.mono hw.size)
 replace f2 := f2.u b3
 refine wl_allocg [_, _, _, _, _, _, _, _, _, _] Tryz.zeroValue173 (by rfl) ?_
 rintro g4 w4 f4 b4 i4 i4_1
 have s4 := b4.size
 replace hw := hw.trans (b4.mono hw.size)
 replace f2 := f2.u b4
 replace f3 := f3.u b4
 refine wl_nil (zs ?_)
 refine zp (o_buildga [_, _, _, _, _, _, _, _, _, _] Tryz.underlying173 Tryz.sizeOf2 Tryz.zeroValue173 (by rfl) (by rfl) rfl (by rfl) (by rfl) (fun _ => by kernel_rfl)) ?_
 refine wl_allocg [_, _, _, _, _, _, _, _, _, _] Tryz.zeroValue173 (by rfl) ?_
 rintro g5 w5 f5 b5 i5 i5_1
 have s5 := b5.size
 replace hw := hw.trans (b5.mono hw.size)
 replace f3 := f3.u b5
 replace f2 := f2.u b5
 replace f4 := f4.u b5
 refine wl_storega Tryz.sizeOf173 rfl rfl (by rfl) (by decide) f5 (by rfl) ?_
 rintro w_1 f g e_1
 have s := g.size
 replace hw := hw.trans (below_of_grownBy g.g hw.size (by omega))
 replace f4 := f4.k g.g (ap_some (by omega))
 replace f2 := f2.k g.g (ap_some (by omega))
 replace f3 := f3.k g.g (ap_some (by omega))
 clear f5
 refine wl_nil (rk_seq (zs (za rfl (wl_nil (rk_block ?_)))))
 have hg23 : g2 < g3 := by omega
 have hg34 : g3 < g4 := by omega
 have hg45 : g4 < g5 := by omega
 refine rk_joinf (fun fb fr V => ∃ (o : W10), fr = [] ++ fb.drop 1 ∧ o = foldN (pwI x e) 256 w10one ∧ Blk V g4 173 (vI (List.replicate 10 0)) ∧ Blk V g5 173 (vI o.1) ∧ Below w.heap.size w V) ?_ (fun ks hj => ?_)
 rotate_left
 ·refine rk_loopf (fun fb k fr V => ∃ (j : Nat) (v : Int) (o : W10), fr = [(6, .int .i64 v)] ++ fb.drop 1 ∧ v = 255 - (j : Int) ∧ j ≤ 256 ∧ k = 256 - j ∧ o = foldN (pwI x e) j w10one ∧ Blk V g2 173 (vI x.1) ∧ Blk V g3 108 (B8 e.1) ∧ Blk V g4 173 (vI (List.replicate 10 0)) ∧ Blk V g5 173 (vI o.1) ∧ Below w.heap.size w V) (n := 256) (Fr.le_of (by kernel_rfl) (by kernel_rfl) (by repeat' constructor)) ⟨0, _, w10one, rfl, rfl, by omega, rfl, rfl, f2, f3, f4, by assumption, hw⟩ ?_
  clear f2 f3 f4 f hw
  rintro k fr V ⟨j, v, o, rfl, rfl, hj2, rfl, ho, f2, f3, f4, f5, hw⟩
  have shw := hw.size
  have hol := o.2
  have hos : foldN (pwI x e) (j + 1) w10one = pwI x e o j := by rw [ho]; rfl
  obtain ⟨o1, h1⟩ : ∃ q, timesS o o = q := ⟨_, rfl⟩
  obtain ⟨o2, h2⟩ : ∃ q, timesS o1 x = q := ⟨_, rfl⟩
  have ho1 := o1.2
  have ho2 := o2.2
  first | refine zf ?_ | refine zg ?_
  by_cases hjl : j < 256
  ·by_cases hb : bit8 (e.at ((255 - j) / 8)) ((255 - j) % 8)
   ·have hb2 := hb
    unfold bit8 N32.at at hb2
    refine rk_seq (zs (zm rfl ?_))
    refine zp (o_ge rfl rfl) ?_
    refine wl_nil ?_
    refine rk_if rfl (fun h9 => ?_) (fun h9 => h9.elim (by omega))
    refine rk_skip (rk_seq (rk_block (zs ?_)))
    refine wl_r (o_loadag Tryz.isAgg173 Tryz.sizeOf173 rfl f5 vI10) ?_
    refine wl_r (o_loadag Tryz.isAgg173 Tryz.sizeOf173 rfl f5 vI10) ?_
    refine wl_call rfl (C_f3Times _ h1) ?_
    rintro v14 w14 ⟨rfl, b14⟩
    have s14 := b14.size
    replace hw := hw.trans (b14.mono hw.size)
    replace f5 := f5.u b14
    replace f4 := f4.u b14
    replace f3 := f3.u b14
    replace f2 := f2.u b14
    refine wl_stIa Tryz.sizeOf173 rfl f5 rfl ho1 hol ?_
    rintro w_2 f g_1 e_2
    have s_1 := g_1.size
    replace hw := hw.trans (below_of_grownBy g_1.g hw.size (by omega))
    replace f2 := f2.k g_1.g (ap_some (by omega))
    replace f3 := f3.k g_1.g (ap_some (by omega))
    replace f4 := f4.k g_1.g (ap_some (by omega))
    clear f5
    refine wl_nil (zs (zm rfl ?_))
    refine zp (o_quo rfl rfl (by omega) (by omega) (by omega)) ?_
    refine zp (o_iaddrP ((255 - j) / 8) Tryz.underlying108 Tryz.sizeOf5 rfl rfl (by omega) (by omega)) ?_
    refine wl_r (o_ldD Tryz.isAgg5 rfl f3 (by omega)) ?_
    refine zm rfl ?_
    refine zp (o_rem rfl rfl (by omega) (by omega)) ?_
    refine zp (o_convu64 (src := 3) (dst := 102) Tryz.underlying3 Tryz.underlying102 rfl (by omega) (by omega)) ?_
    refine zp (o_shr8 ((255 - j) % 8) rfl rfl (by omega) (by omega)) ?_
    refine zp (o_remz rfl rfl (by omega)) ?_
    refine zp (o_eq rfl rfl) ?_
    refine wl_nil ?_
    refine rk_if rfl (fun h24 => ?_) (fun h24 => h24.elim (by omega))
    refine rk_region ?_
    refine wl_r (o_loadag Tryz.isAgg173 Tryz.sizeOf173 rfl f vI10) ?_
    refine wl_r (o_loadag Tryz.isAgg173 Tryz.sizeOf173 rfl f2 vI10) ?_
    refine wl_call rfl (C_f3Times _ h2) ?_
    rintro v27 w27 ⟨rfl, b27⟩
    have s27 := b27.size
    replace hw := hw.trans (b27.mono hw.size)
    replace f4 := f4.u b27
    replace f3 := f3.u b27
    replace f2 := f2.u b27
    replace f := f.u b27
    refine wl_stIa Tryz.sizeOf173 rfl f rfl ho2 ho1 ?_
    rintro w_3 f_1 g_2 e_3
    have s_2 := g_2.size
    replace hw := hw.trans (below_of_grownBy g_2.g hw.size (by omega))
    replace f2 := f2.k g_2.g (ap_some (by omega))
    replace f3 := f3.k g_2.g (ap_some (by omega))
    replace f4 := f4.k g_2.g (ap_some (by omega))
    clear f
    refine wl_nil ?_
    refine rk_blk ?_
    refine rk_region (zm rfl ?_)
    refine zp (o_sub rfl rfl (by omega) (by omega)) ?_
    refine za rfl (wl_nil ?_)
    exact rk_againf (Fr.le_of (by kernel_rfl) (by kernel_rfl) (by repeat' constructor)) ⟨j + 1, _, _, rfl, by omega, by omega, rfl, rfl, f2, f3, f4, by rw [hos]; unfold pwI; rw [if_pos hb, h1, h2]; assumption, hw⟩ (by omega)
   ·have hb2 := hb
    unfold bit8 N32.at at hb2
    refine rk_seq (zs (zm rfl ?_))
    refine zp (o_ge rfl rfl) ?_
    refine wl_nil ?_
    refine rk_if rfl (fun h9 => ?_) (fun h9 => h9.elim (by omega))
    refine rk_skip (rk_seq (rk_block (zs ?_)))
    refine wl_r (o_loadag Tryz.isAgg173 Tryz.sizeOf173 rfl f5 vI10) ?_
    refine wl_r (o_loadag Tryz.isAgg173 Tryz.sizeOf173 rfl f5 vI10) ?_
    refine wl_call rfl (C_f3Times _ h1) ?_
    rintro v14 w14 ⟨rfl, b14⟩
    have s14 := b14.size
    replace hw := hw.trans (b14.mono hw.size)
    replace f5 := f5.u b14
    replace f4 := f4.u b14
    replace f3 := f3.u b14
    replace f2 := f2.u b14
    refine wl_stIa Tryz.sizeOf173 rfl f5 rfl ho1 hol ?_
    rintro w_2 f g_1 e_2
    have s_1 := g_1.size
    replace hw := hw.trans (below_of_grownBy g_1.g hw.size (by omega))
    replace f2 := f2.k g_1.g (ap_some (by omega))
    replace f3 := f3.k g_1.g (ap_some (by omega))
    replace f4 := f4.k g_1.g (ap_some (by omega))
    clear f5
    refine wl_nil (zs (zm rfl ?_))
    refine zp (o_quo rfl rfl (by omega) (by omega) (by omega)) ?_
    refine zp (o_iaddrP ((255 - j) / 8) Tryz.underlying108 Tryz.sizeOf5 rfl rfl (by omega) (by omega)) ?_
    refine wl_r (o_ldD Tryz.isAgg5 rfl f3 (by omega)) ?_
    refine zm rfl ?_
    refine zp (o_rem rfl rfl (by omega) (by omega)) ?_
    refine zp (o_convu64 (src := 3) (dst := 102) Tryz.underlying3 Tryz.underlying102 rfl (by omega) (by omega)) ?_
    refine zp (o_shr8 ((255 - j) % 8) rfl rfl (by omega) (by omega)) ?_
    refine zp (o_remz rfl rfl (by omega)) ?_
    refine zp (o_eq rfl rfl) ?_
    refine wl_nil ?_
    refine rk_if rfl (fun h24 => absurd h24 (by omega)) (fun h24 => ?_)
    refine rk_skip ?_
    refine rk_blk ?_
    refine rk_region (zm rfl ?_)
    refine zp (o_sub rfl rfl (by omega) (by omega)) ?_
    refine za rfl (wl_nil ?_)
    exact rk_againf (Fr.le_of (by kernel_rfl) (by kernel_rfl) (by repeat' constructor)) ⟨j + 1, _, _, rfl, by omega, by omega, rfl, rfl, f2, f3, f4, by rw [hos]; unfold pwI; rw [if_neg hb, h1]; assumption, hw⟩ (by omega)
  ·refine rk_seq ?_
   refine zs (zm rfl ?_)
   refine zp (o_ge rfl rfl) ?_
   refine wl_nil ?_
   refine rk_if rfl (fun h9 => absurd h9 (by omega)) (fun h9 => ?_)
   refine rk_exit rfl ?_
   obtain rfl : j = 256 := by omega
   exact rk_tof hj (Fr.le_of (by kernel_rfl) (by kernel_rfl) (by repeat' constructor)) ⟨o, rfl, ho, f4, f5, hw⟩
 clear f2 f3 f4 f hw
 rintro fr V ⟨o, rfl, ho, f4, f5, hw⟩
 have shw := hw.size
 have hol := o.2
 obtain rfl : o = r := by rw [ho]; exact hr
 first | refine zf ?_ | refine zg ?_
 refine zs ?_
 refine wl_r (o_loadag Tryz.isAgg173 Tryz.sizeOf173 rfl f5 vI10) ?_
 refine wl_stIa Tryz.sizeOf173 rfl f4 rfl hol (by rfl) ?_
 rintro w_2 f g_1 e_2
 have s_1 := g_1.size
 replace hw := hw.trans (below_of_grownBy g_1.g hw.size (by omega))
 replace f5 := f5.k g_1.g (ap_some (by omega))
 clear f4
 refine wl_nil ?_
 refine ret_cell rfl rfl Tryz.isAgg173 Tryz.sizeOf173 (by assumption) (by first | exact vI10 | exact b32 | exact ptC_len _ | exact frC_len _ | rfl) ?_
 exact ⟨rfl, hw⟩
set_option maxRecDepth 100000 in
theorem C_f3Of {z : Int} {r : N32} (w : World) (hr : ofS z = r) :
  CallsR Tryz.prog 114 [.int .u64 z] w fun v w' => v = .agg (B8 r.1).toArray ∧ Below w.heap.size w w' := by
 refine callsR Tryz.func114 rfl rfl (by kernel_rfl) rfl ?_
 have hw := Below.refl w.heap.size w
 refine zs ?_
 refine wl_allocB Tryz.underlying108 Tryz.zeroValue108 (by rfl) ?_
 rintro g2 w2 f2 b2 i2 i2_1
 have s2 := b2.size
 replace hw := hw.trans (b2.mono hw.size)
 refine wl_nil (zs ?_)
 refine wl_allocB Tryz.underlying108 Tryz.zeroValue108 (by rfl) ?_
 rintro g3 w3 f3 b3 i3 i3_1
 have s3 := b3.size
 replace hw := hw.trans (b3.mono hw.size)
 replace f2 := f2.u b3
 refine wl_nil (rk_seq (zs (za rfl (wl_nil (rk_block ?_)))))
 have hg23 : g2 < g3 := by omega
 refine rk_joinf (fun fb fr V => ∃ (o : N32), fr = [] ++ fb.drop 1 ∧ o = foldN (ofI z) 8 n32z ∧ Blk V g2 108 (B8 (List.replicate 32 0)) ∧ Blk V g3 108 (B8 o.1) ∧ Below w.heap.size w V) ?_ (fun ks hj => ?_)
 rotate_left
 ·refine rk_loopf (fun fb k fr V => ∃ (i : Nat) (v : Int) (o : N32), fr = [(4, .int .i64 v)] ++ fb.drop 1 ∧ v = i ∧ i ≤ 8 ∧ k = 8 - i ∧ o = foldN (ofI z) i n32z ∧ Blk V g2 108 (B8 (List.replicate 32 0)) ∧ Blk V g3 108 (B8 o.1) ∧ Below w.heap.size w V) (n := 8) (Fr.le_of (by kernel_rfl) (by kernel_rfl) (by repeat' constructor)) ⟨0, _, n32z, rfl, rfl, by omega, rfl, rfl, f2, f3, hw⟩ ?_
  clear f2 f3 hw
  rintro k fr V ⟨i, v, o, rfl, rfl, hi, rfl, ho, f2, f3, hw⟩
  have shw := hw.size
  have hol := o.2
  have hos : foldN (ofI z) (i + 1) n32z = ofI z o i := by rw [ho]; rfl
  first | refine zf ?_ | refine zg ?_
  by_cases hil : i < 8
  ·refine rk_seq ?_
   refine zs (zm rfl ?_)
   refine zp (o_lt rfl rfl) ?_
   refine wl_nil ?_
   refine rk_if rfl (fun h6 => ?_) (fun h6 => h6.elim (by omega))
   refine rk_skip (rk_seq (rk_block (rk_region (zm rfl (zm rfl (zm rfl ?_))))))
   refine zp (o_mul rfl rfl (by omega) (by omega)) ?_
   refine zp (o_convu64 (src := 3) (dst := 102) Tryz.underlying3 Tryz.underlying102 rfl (by omega) (by omega)) ?_
   refine zp (o_shrQ (8 * i) rfl rfl (by omega) (by omega)) ?_
   refine zp (o_conv64 Tryz.underlying43 Tryz.underlying5 rfl) ?_
   refine zp (o_iaddrP (i) Tryz.underlying108 Tryz.sizeOf5 rfl rfl rfl (by omega)) ?_
   refine wl_stB Tryz.sizeOf5 rfl f3 rfl (by omega) ?_
   rintro w_1 f g e
   have s := g.size
   replace hw := hw.trans (below_of_grownBy g.g hw.size (by omega))
   replace f2 := f2.k g.g (ap_some (by omega))
   clear f3
   refine wl_nil ?_
   refine rk_blk ?_
   refine rk_region (zm rfl ?_)
   refine zp (o_add rfl rfl (by omega) (by omega)) ?_
   refine za rfl (wl_nil ?_)
   exact rk_againf (Fr.le_of (by kernel_rfl) (by kernel_rfl) (by repeat' constructor)) ⟨i + 1, (i : Int) + 1, _, rfl, by omega, by omega, rfl, rfl, f2, by rw [hos]; unfold ofI; assumption, hw⟩ (by omega)
  ·refine rk_seq ?_
   refine zs (zm rfl ?_)
   refine zp (o_lt rfl rfl) ?_
   refine wl_nil ?_
   refine rk_if rfl (fun h6 => absurd h6 (by omega)) (fun h6 => ?_)
   refine rk_exit rfl ?_
   obtain rfl : i = 8 := by omega
   exact rk_tof hj (Fr.le_of (by kernel_rfl) (by kernel_rfl) (by repeat' constructor)) ⟨o, rfl, ho, f2, f3, hw⟩
 clear f2 f3 hw
 rintro fr V ⟨o, rfl, ho, f2, f3, hw⟩
 have shw := hw.size
 have hol := o.2
 obtain rfl : o = r := by rw [ho]; exact hr
 first | refine zf ?_ | refine zg ?_
 refine zs ?_
 refine wl_r (o_ldBa Tryz.isAgg108 Tryz.sizeOf108 rfl f3 hol) ?_
 refine wl_stBa Tryz.sizeOf108 rfl f2 rfl hol (by rfl) ?_
 rintro w_1 f g e
 have s := g.size
 replace hw := hw.trans (below_of_grownBy g.g hw.size (by omega))
 replace f3 := f3.k g.g (ap_some (by omega))
 clear f2
 refine wl_nil ?_
 refine ret_cell rfl rfl Tryz.isAgg108 Tryz.sizeOf108 (by assumption) (by first | exact vI10 | exact b32 | exact ptC_len _ | exact frC_len _ | rfl) ?_
 exact ⟨rfl, hw⟩
set_option maxRecDepth 100000 in
set_option maxHeartbeats 1000000 in
theorem C_f3shifted {n z : Int} {q : Nat} {r : N32} (w : World) (hz : z = (q : Int)) (hq : q ≤ 10) (hn : 0 ≤ n ∧ n ≤ 200) (hr : shiftedS n q = r) :
  CallsR Tryz.prog 156 [.int .i64 n, .int .i64 z] w fun v w' => v = .agg (B8 r.1).toArray ∧ Below w.heap.size w w' := by
 subst hz
 refine callsR Tryz.func156 rfl rfl (by kernel_rfl) rfl ?_
 have hw := Below.refl w.heap.size w
 refine zs ?_
 refine wl_allocB Tryz.underlying108 Tryz.zeroValue108 (by rfl) ?_
 rintro g4 w4 f4 b4 i4 i4_1
 have s4 := b4.size
 replace hw := hw.trans (b4.mono hw.size)
 refine wl_nil (zs ?_)
 refine wl_allocB Tryz.underlying108 Tryz.zeroValue108 (by rfl) ?_
 rintro g5 w5 f5 b5 i5 i5_1
 have s5 := b5.size
 replace hw := hw.trans (b5.mono hw.size)
 replace f4 := f4.u b5
 refine wl_nil (rk_seq (zs (za rfl (wl_nil (rk_block ?_)))))
 have hg45 : g4 < g5 := by omega
 refine rk_joinf (fun fb fr V => ∃ (o : N32), fr = [] ++ fb.drop 1 ∧ o = foldN shA 32 n32z ∧ Blk V g4 108 (B8 (List.replicate 32 0)) ∧ Blk V g5 108 (B8 o.1) ∧ Below w.heap.size w V) ?_ (fun ks hj => ?_)
 rotate_left
 ·refine rk_loopf (fun fb k fr V => ∃ (i : Nat) (v : Int) (o : N32), fr = [(6, .int .i64 v)] ++ fb.drop 1 ∧ v = i ∧ i ≤ 32 ∧ k = 32 - i ∧ o = foldN shA i n32z ∧ Blk V g4 108 (B8 (List.replicate 32 0)) ∧ Blk V g5 108 (B8 o.1) ∧ Below w.heap.size w V) (n := 32) (Fr.le_of (by kernel_rfl) (by kernel_rfl) (by repeat' constructor)) ⟨0, _, n32z, rfl, rfl, by omega, rfl, rfl, f4, f5, hw⟩ ?_
  clear f4 f5 hw
  rintro k fr V ⟨i, v, o, rfl, rfl, hi, rfl, ho, f4, f5, hw⟩
  have shw := hw.size
  have hol := o.2
  have hos : foldN shA (i + 1) n32z = shA o i := by rw [ho]; rfl
  first | refine zf ?_ | refine zg ?_
  by_cases hil : i < 32
  ·refine rk_seq ?_
   refine zs (zm rfl ?_)
   refine zp (o_lt rfl rfl) ?_
   refine wl_nil ?_
   refine rk_if rfl (fun h9 => ?_) (fun h9 => h9.elim (by omega))
   refine rk_skip (rk_seq (rk_block (rk_region (zm rfl ?_))))
   refine zp (o_iaddrP (i) Tryz.underlying108 Tryz.sizeOf5 rfl rfl rfl (by omega)) ?_
   refine wl_stL8 Tryz.sizeOf5 rfl f5 rfl (by omega) (by omega) (by omega) ?_
   rintro w_1 f g e
   have s := g.size
   replace hw := hw.trans (below_of_grownBy g.g hw.size (by omega))
   replace f4 := f4.k g.g (ap_some (by omega))
   clear f5
   refine wl_nil ?_
   refine rk_blk ?_
   refine rk_region (zm rfl ?_)
   refine zp (o_add rfl rfl (by omega) (by omega)) ?_
   refine za rfl (wl_nil ?_)
   exact rk_againf (Fr.le_of (by kernel_rfl) (by kernel_rfl) (by repeat' constructor)) ⟨i + 1, (i : Int) + 1, _, rfl, by omega, by omega, rfl, rfl, f4, by rw [hos]; unfold shA; assumption, hw⟩ (by omega)
  ·refine rk_seq ?_
   refine zs (zm rfl ?_)
   refine zp (o_lt rfl rfl) ?_
   refine wl_nil ?_
   refine rk_if rfl (fun h9 => absurd h9 (by omega)) (fun h9 => ?_)
   refine rk_exit rfl ?_
   obtain rfl : i = 32 := by omega
   exact rk_tof hj (Fr.le_of (by kernel_rfl) (by kernel_rfl) (by repeat' constructor)) ⟨o, rfl, ho, f4, f5, hw⟩
 clear f4 f5 hw
 rintro fr V ⟨o, rfl, ho, f4, f5, hw⟩
 have shw := hw.size
 have hol := o.2
 first | refine zf ?_ | refine zg ?_
 refine zs (zm rfl ?_)
 refine zp (o_sub rfl rfl (by omega) (by omega)) ?_
 refine zp (o_convI8 Tryz.underlying3 Tryz.underlying5 rfl) ?_
 refine zp (o_iaddrP (0) Tryz.underlying108 Tryz.sizeOf5 rfl rfl (by omega) (by omega)) ?_
 refine wl_stB Tryz.sizeOf5 rfl f5 rfl (by omega) ?_
 rintro w_1 f g e
 have s := g.size
 replace hw := hw.trans (below_of_grownBy g.g hw.size (by omega))
 replace f4 := f4.k g.g (ap_some (by omega))
 clear f5
 refine zp (o_iaddrP (31) Tryz.underlying108 Tryz.sizeOf5 rfl rfl (by omega) (by omega)) ?_
 refine wl_stL8 Tryz.sizeOf5 rfl f rfl (by omega) (by omega) (by simp; omega) ?_
 rintro w_2 f_1 g_1 e_1
 have s_1 := g_1.size
 replace hw := hw.trans (below_of_grownBy g_1.g hw.size (by omega))
 replace f4 := f4.k g_1.g (ap_some (by omega))
 clear f
 refine wl_nil (rk_seq (rk_block ?_))
 have hp0 : ∃ p : N32, p = sh0 n ∧ Blk w_2 g5 108 (B8 p.1) := ⟨_, rfl, by unfold sh0; rw [← ho]; assumption⟩
 obtain ⟨p0, hp0, f5⟩ := hp0
 clear f_1
 refine rk_joinf (fun fb fr V => ∃ (p : N32) (v : Int), fr = [(5, .pointer (some ⟨g5, 0, none⟩)), (4, .pointer (some ⟨g4, 0, none⟩)), (1, .int .i64 v)] ++ fb.drop 9 ∧ p = foldN shO q (sh0 n) ∧ Blk V g4 108 (B8 (List.replicate 32 0)) ∧ Blk V g5 108 (B8 p.1) ∧ Below w.heap.size w V) ?_ (fun ks hj => ?_)
 rotate_left
 ·refine rk_loopf (fun fb k fr V => ∃ (j : Nat) (v : Int) (p : N32), fr = [(5, .pointer (some ⟨g5, 0, none⟩)), (4, .pointer (some ⟨g4, 0, none⟩)), (1, .int .i64 v)] ++ fb.drop 9 ∧ v = (q : Int) - j ∧ j ≤ q ∧ k = q - j ∧ p = foldN shO j (sh0 n) ∧ Blk V g4 108 (B8 (List.replicate 32 0)) ∧ Blk V g5 108 (B8 p.1) ∧ Below w.heap.size w V) (n := q) (Fr.le_of (by kernel_rfl) (by kernel_rfl) (by repeat' constructor)) ⟨0, _, p0, rfl, by omega, by omega, rfl, hp0, f4, f5, hw⟩ ?_
  clear f4 f5 hw
  rintro k fr V ⟨j, v, p, rfl, hv, hjq, rfl, hp, f4, f5, hw⟩
  have shw := hw.size
  have hpl := p.2
  have hps : foldN shO (j + 1) (sh0 n) = shO p j := by rw [hp]; exact foldN_succ _ _ _
  first | refine zf ?_ | refine zg ?_
  by_cases hjl : j < q
  ·refine rk_seq ?_
   refine zs (zm rfl ?_)
   refine zp (o_gt rfl rfl) ?_
   refine wl_nil ?_
   refine rk_if rfl (fun h20 => ?_) (fun h20 => h20.elim (by omega))
   refine rk_skip (rk_seq (rk_block (zs (za rfl (wl_nil (rk_block ?_))))))
   refine rk_joinf (fun fb fr V => ∃ (s : N32), fr = [] ++ fb.drop 1 ∧ s = foldN shI 32 p ∧ Blk V g4 108 (B8 (List.replicate 32 0)) ∧ Blk V g5 108 (B8 s.1) ∧ Below w.heap.size w V) ?_ (fun ks hj => ?_)
   rotate_left
   ·refine rk_loopf (fun fb k fr V => ∃ (i : Nat) (u : Int) (s : N32), fr = [(7, .int .i64 u)] ++ fb.drop 1 ∧ u = i ∧ i ≤ 32 ∧ k = 32 - i ∧ s = foldN shI i p ∧ Blk V g4 108 (B8 (List.replicate 32 0)) ∧ Blk V g5 108 (B8 s.1) ∧ Below w.heap.size w V) (n := 32) (Fr.le_of (by kernel_rfl) (by kernel_rfl) (by repeat' constructor)) ⟨0, _, p, rfl, rfl, by omega, rfl, rfl, f4, f5, hw⟩ ?_
    clear f4 f5 hw
    rintro k fr V ⟨i, u, s, rfl, rfl, hi, rfl, hs, f4, f5, hw⟩
    have shw := hw.size
    have hsl := s.2
    have hss : foldN shI (i + 1) p = shI s i := by rw [hs]; rfl
    first | refine zf ?_ | refine zg ?_
    by_cases hil : i < 32
    ·by_cases h31 : i < 31
     ·refine rk_seq ?_
      refine zs (zm rfl ?_)
      refine zp (o_lt rfl rfl) ?_
      refine wl_nil ?_
      refine rk_if rfl (fun h24 => ?_) (fun h24 => h24.elim (by omega))
      refine rk_skip (rk_seq (rk_block (zs (zm rfl (zm rfl ?_)))))
      refine zp (o_iaddrP (i) Tryz.underlying108 Tryz.sizeOf5 rfl rfl rfl (by omega)) ?_
      refine wl_r (o_ldD Tryz.isAgg5 rfl f5 (by omega)) ?_
      refine zp (o_quo8 (2) rfl rfl (by omega) (by omega)) ?_
      refine zp (o_iaddrP (i) Tryz.underlying108 Tryz.sizeOf5 rfl rfl rfl (by omega)) ?_
      refine wl_stB Tryz.sizeOf5 rfl f5 rfl (by omega) ?_
      rintro w_3 f g_2 e_2
      have s_2 := g_2.size
      replace hw := hw.trans (below_of_grownBy g_2.g hw.size (by omega))
      replace f4 := f4.k g_2.g (ap_some (by omega))
      clear f5
      refine wl_nil (zs (zm rfl ?_))
      refine zp (o_lt rfl rfl) ?_
      refine zm rfl ?_
      refine wl_know 35 true rfl (decide_eq_true (by omega)) ?_
      refine zm rfl ?_
      refine zp (o_add rfl rfl (by omega) (by omega)) ?_
      refine zp (o_iaddrP (i + 1) Tryz.underlying108 Tryz.sizeOf5 rfl rfl (by omega) (by omega)) ?_
      refine wl_r (o_ldD Tryz.isAgg5 rfl f (by simp; omega)) ?_
      refine zp (o_rem8 (2) rfl rfl (by omega) (by omega)) ?_
      refine zp (o_eq rfl rfl) ?_
      refine zp (o_pick_t rfl rfl) ?_
      refine wl_nil ?_
      refine rk_if rfl (fun h42 => ?_) (fun h42 => ?_)
      ·refine rk_region ?_
       refine zm rfl (zm rfl ?_)
       refine zp (o_iaddrP (i) Tryz.underlying108 Tryz.sizeOf5 rfl rfl rfl (by omega)) ?_
       refine wl_r (o_ldD Tryz.isAgg5 rfl f (by simp; omega)) ?_
       refine zp (o_add8 rfl rfl) ?_
       refine zp (o_iaddrP (i) Tryz.underlying108 Tryz.sizeOf5 rfl rfl rfl (by omega)) ?_
       refine wl_stB Tryz.sizeOf5 rfl f rfl (by simp; omega) ?_
       rintro w_4 f_1 g_3 e_3
       have s_3 := g_3.size
       replace hw := hw.trans (below_of_grownBy g_3.g hw.size (by omega))
       replace f4 := f4.k g_3.g (ap_some (by omega))
       clear f
       refine wl_nil ?_
       refine rk_blk ?_
       refine rk_region (zm rfl ?_)
       refine zp (o_add rfl rfl (by omega) (by omega)) ?_
       refine za rfl (wl_nil ?_)
       exact rk_againf (Fr.le_of (by kernel_rfl) (by kernel_rfl) (by repeat' constructor)) ⟨i + 1, (i : Int) + 1, _, rfl, by omega, by omega, rfl, rfl, f4, by rw [hss]; unfold shI; rw [if_pos ⟨h31, h42⟩]; assumption, hw⟩ (by omega)
      ·refine rk_skip ?_
       refine rk_blk ?_
       refine rk_region (zm rfl ?_)
       refine zp (o_add rfl rfl (by omega) (by omega)) ?_
       refine za rfl (wl_nil ?_)
       exact rk_againf (Fr.le_of (by kernel_rfl) (by kernel_rfl) (by repeat' constructor)) ⟨i + 1, (i : Int) + 1, _, rfl, by omega, by omega, rfl, rfl, f4, by rw [hss]; unfold shI; rw [if_neg (fun h => h42 h.2)]; assumption, hw⟩ (by omega)
     ·refine rk_seq ?_
      refine zs (zm rfl ?_)
      refine zp (o_lt rfl rfl) ?_
      refine wl_nil ?_
      refine rk_if rfl (fun h24 => ?_) (fun h24 => h24.elim (by omega))
      refine rk_skip (rk_seq (rk_block (zs (zm rfl (zm rfl ?_)))))
      refine zp (o_iaddrP (i) Tryz.underlying108 Tryz.sizeOf5 rfl rfl rfl (by omega)) ?_
      refine wl_r (o_ldD Tryz.isAgg5 rfl f5 (by omega)) ?_
      refine zp (o_quo8 (2) rfl rfl (by omega) (by omega)) ?_
      refine zp (o_iaddrP (i) Tryz.underlying108 Tryz.sizeOf5 rfl rfl rfl (by omega)) ?_
      refine wl_stB Tryz.sizeOf5 rfl f5 rfl (by omega) ?_
      rintro w_3 f g_2 e_2
      have s_2 := g_2.size
      replace hw := hw.trans (below_of_grownBy g_2.g hw.size (by omega))
      replace f4 := f4.k g_2.g (ap_some (by omega))
      clear f5
      refine wl_nil (zs (zm rfl ?_))
      refine zp (o_lt rfl rfl) ?_
      refine zm rfl ?_
      refine wl_know 35 false rfl (decide_eq_false (by omega)) ?_
      refine wl_off (wl_off (wl_off (wl_off (wl_off (wl_off ?_)))))
      refine zp (o_pick_f rfl rfl) ?_
      refine wl_nil ?_
      refine rk_false rfl ?_
      refine rk_skip ?_
      refine rk_blk ?_
      refine rk_region (zm rfl ?_)
      refine zp (o_add rfl rfl (by omega) (by omega)) ?_
      refine za rfl (wl_nil ?_)
      exact rk_againf (Fr.le_of (by kernel_rfl) (by kernel_rfl) (by repeat' constructor)) ⟨i + 1, (i : Int) + 1, _, rfl, by omega, by omega, rfl, rfl, f4, by rw [hss]; unfold shI; rw [if_neg (fun h => h31 h.1)]; assumption, hw⟩ (by omega)
    ·refine rk_seq ?_
     refine zs (zm rfl ?_)
     refine zp (o_lt rfl rfl) ?_
     refine wl_nil ?_
     refine rk_if rfl (fun h24 => absurd h24 (by omega)) (fun h24 => ?_)
     refine rk_exit rfl ?_
     obtain rfl : i = 32 := by omega
     exact rk_tof hj (Fr.le_of (by kernel_rfl) (by kernel_rfl) (by repeat' constructor)) ⟨s, rfl, hs, f4, f5, hw⟩
   clear f4 f5 hw
   rintro fr V ⟨s, rfl, hs, f4, f5, hw⟩
   have shw := hw.size
   have hsl := s.2
   first | refine zf ?_ | refine zg ?_
   refine rk_blk ?_
   refine rk_region (zm rfl ?_)
   refine zp (o_sub rfl rfl (by omega) (by omega)) ?_
   refine za rfl (wl_nil ?_)
   exact rk_againf (Fr.le_of (by kernel_rfl) (by kernel_rfl) (by repeat' constructor)) ⟨j + 1, _, _, rfl, by omega, by omega, rfl, rfl, f4, by rw [hps]; unfold shO; rw [← hs]; exact f5, hw⟩ (by omega)
  ·refine rk_seq ?_
   refine zs (zm rfl ?_)
   refine zp (o_gt rfl rfl) ?_
   refine wl_nil ?_
   refine rk_if rfl (fun h20 => absurd h20 (by omega)) (fun h20 => ?_)
   refine rk_exit rfl ?_
   obtain rfl : j = q := by omega
   exact rk_tof hj (Fr.le_of (by kernel_rfl) (by kernel_rfl) (by repeat' constructor)) ⟨p, _, rfl, hp, f4, f5, hw⟩
 clear f4 f5 hw
 rintro fr V ⟨p, v, rfl, hp, f4, f5, hw⟩
 have shw := hw.size
 have hpl := p.2
 obtain rfl : p = r := by rw [hp]; exact hr
 first | refine zf ?_ | refine zg ?_
 refine zs ?_
 refine wl_r (o_ldBa Tryz.isAgg108 Tryz.sizeOf108 rfl f5 hpl) ?_
 refine wl_stBa Tryz.sizeOf108 rfl f4 rfl hpl (by rfl) ?_
 rintro w_3 f g_2 e_2
 have s_2 := g_2.size
 replace hw := hw.trans (below_of_grownBy g_2.g hw.size (by omega))
 replace f5 := f5.k g_2.g (ap_some (by omega))
 clear f4
 refine wl_nil ?_
 refine ret_cell rfl rfl Tryz.isAgg108 Tryz.sizeOf108 (by assumption) (by first | exact vI10 | exact b32 | exact ptC_len _ | exact frC_len _ | rfl) ?_
 exact ⟨rfl, hw⟩
end Go.Proofs.YtahkeoegbjopfaaGreat
namespace Go.Proofs.YtahkeoegbjopfaaGreat
set_option maxRecDepth 100000
open Go.ChangeShapes Go.WideShapes Go.ChangeAt Go.RowKit

structure GoT (α : Type) where
 sz : Nat
 tys : List TypeId
 R : World → List Value → α → Prop
 T : World → List Value → α → Prop
 len : ∀ {w cs a}, R w cs a → cs.length = sz
 u : ∀ {w w' cs a}, R w cs a → Below w.heap.size w w' → R w' cs a
 tr : ∀ {w cs a}, T w cs a → R w cs a
 tu : ∀ {w w' cs a}, T w cs a → Below w.heap.size w w' → T w' cs a
 ty : ∀ {w w' cs a e row}, T w cs a → Grew w w' e row → e ∉ tys → T w' cs a
 tm : ∀ {w w' cs a b}, T w cs a → GrewM w w' b → T w' cs a
theorem below_drew (w : World) : Below w.heap.size w w.drew := (Below.refl _ w).drew

def GoT.flat {α : Type} (f : α → Value) (p : α → Prop) : GoT α where
 sz := 1
 tys := []
 R _ cs a := cs = [f a] ∧ p a
 T _ cs a := cs = [f a] ∧ p a
 len h := by rw [h.1]; rfl
 u h _ := h
 tr h := h
 tu h _ := h
 ty h _ _ := h
 tm h _ := h
def gInt (k : IntKind) : GoT Int := GoT.flat (Value.int k) (fun n => (Lit.int k n).wf = true)
theorem grew_blk {w w' : World} {e e' : TypeId} {row : Option Nat} (hg : Grew w w' e' row) {A : Option Addr} (ht : ∀ k, blk A = some k → TyAt w k e) (hne : e' ≠ e) : blk A = none ∨ blk A ≠ row := by
 cases hA : blk A with
 | none => exact .inl rfl
 | some k =>
  refine .inr (fun ek => ?_)
  obtain ⟨_, _, h1⟩ := ht k hA
  obtain ⟨_, _, h2⟩ := hg.ty k ek.symm
  rw [h1] at h2
  injection h2 with h2
  injection h2 with _ h2
  exact hne h2.symm
theorem growm_blk {w w' : World} {e : TypeId} {b : Nat} (hg : GrewM w w' b) {A : Option Addr} (ht : ∀ k, blk A = some k → TyAt w k e) : blk A = none ∨ blk A ≠ some b := by
 cases hA : blk A with
 | none => exact .inl rfl
 | some k =>
  refine .inr (fun ek => ?_)
  obtain ⟨_, _, h1⟩ := ht k hA
  obtain ⟨_, _, h2⟩ := hg.m
  injection ek with ek
  subst ek
  rw [h1] at h2
  cases h2
theorem TyAt.lt {w : World} {k : Nat} {e : TypeId} (h : TyAt w k e) : k < w.heap.size := by
 obtain ⟨_, _, h⟩ := h
 rcases Nat.lt_or_ge k w.heap.size with h1 | h1
 ·exact h1
 ·rw [Array.getElem?_eq_none h1] at h; cases h
theorem TyAt.keep {w w' : World} {k : Nat} {e : TypeId} (h : TyAt w k e) (hb : w'.heap[k]? = w.heap[k]?) : TyAt w' k e := by
 obtain ⟨cs, f, h⟩ := h
 exact ⟨cs, f, hb.trans h⟩

def RdT (w : World) (A : Option Addr) (l : List UInt8) : Prop := Rd w A l ∧ ∀ k, blk A = some k → TyAt w k 5
section
variable {w w' : World} {A : Option Addr} {l : List UInt8} {e : TypeId} {row : Option Nat} {b lo hi c : Nat}
theorem RdT.u (h : RdT w A l) (hb : Below w.heap.size w w') : RdT w' A l := ⟨h.1.below hb, fun k hk => (h.2 k hk).keep (hb.block k (h.2 k hk).lt)⟩
theorem RdT.d (h : RdT w A l) : RdT w.drew A l := h
theorem RdT.to_Rd (h : RdT w A l) : Rd w A l := h.1
theorem RdT.nil_ : RdT w none [] := ⟨Rd.nil _ _, fun k hk => by cases hk⟩
theorem RdT.y (h : RdT w A l) (hg : Grew w w' e row) (hne : e ≠ 5) : RdT w' A l := by
 have hne' := grew_blk hg h.2 hne
 refine ⟨h.1.grown hg.g hne', fun k hk => (h.2 k hk).keep (hg.g.block k (h.2 k hk).lt (fun e => ?_))⟩
 rcases hne' with h1 | h1
 ·rw [h1] at hk; cases hk
 ·exact h1 (hk.trans e)
theorem RdT.m (h : RdT w A l) (hg : GrewM w w' b) : RdT w' A l := by
 have hne' := growm_blk hg h.2
 refine ⟨h.1.grown hg.g hne', fun k hk => (h.2 k hk).keep (hg.g.block k (h.2 k hk).lt (fun e => ?_))⟩
 rcases hne' with h1 | h1
 ·rw [h1] at hk; cases hk
 ·exact h1 (hk.trans e)
theorem OwnH.to_RdT (h : OwnH w lo hi A c l) : RdT w A l := ⟨h.to_Rd, RowH.ty h⟩
end
def gBytes : GoT (List UInt8) where
 sz := 1
 tys := [5]
 R w cs l := ∃ A c, cs = [.slice A l.length c] ∧ Rd w A l ∧ l.length ≤ c ∧ c ≤ maxLen
 T w cs l := ∃ A c, cs = [.slice A l.length c] ∧ RdT w A l ∧ l.length ≤ c ∧ c ≤ maxLen
 len h := by obtain ⟨A, c, rfl, _⟩ := h; rfl
 u h hb := by obtain ⟨A, c, e, h1, h2⟩ := h; exact ⟨A, c, e, h1.below hb, h2⟩
 tr h := by obtain ⟨A, c, e, h1, h2⟩ := h; exact ⟨A, c, e, h1.1, h2⟩
 tu h hb := by obtain ⟨A, c, e, h1, h2⟩ := h; exact ⟨A, c, e, h1.u hb, h2⟩
 ty h hg hne := by obtain ⟨A, c, e, h1, h2⟩ := h; exact ⟨A, c, e, h1.y hg (by simpa using hne), h2⟩
 tm h hg := by obtain ⟨A, c, e, h1, h2⟩ := h; exact ⟨A, c, e, h1.m hg, h2⟩

def gArr (n : Nat) : GoT { l : List UInt8 // l.length = n } where
 sz := n
 tys := []
 R _ cs a := cs = B8 a.1
 T _ cs a := cs = B8 a.1
 len := fun {w cs a} h => by rw [h, B8_length]; exact a.2
 u h _ := h
 tr h := h
 tu h _ := h
 ty h _ _ := h
 tm h _ := h

def GoT.pair {α β : Type} (X : GoT α) (Y : GoT β) : GoT (α × β) where
 sz := X.sz + Y.sz
 tys := X.tys ++ Y.tys
 R w cs a := ∃ c1 c2, cs = c1 ++ c2 ∧ X.R w c1 a.1 ∧ Y.R w c2 a.2
 T w cs a := ∃ c1 c2, cs = c1 ++ c2 ∧ X.T w c1 a.1 ∧ Y.T w c2 a.2
 len h := by obtain ⟨c1, c2, rfl, h1, h2⟩ := h; rw [List.length_append, X.len h1, Y.len h2]
 u h hb := by obtain ⟨c1, c2, e, h1, h2⟩ := h; exact ⟨c1, c2, e, X.u h1 hb, Y.u h2 hb⟩
 tr h := by obtain ⟨c1, c2, e, h1, h2⟩ := h; exact ⟨c1, c2, e, X.tr h1, Y.tr h2⟩
 tu h hb := by obtain ⟨c1, c2, e, h1, h2⟩ := h; exact ⟨c1, c2, e, X.tu h1 hb, Y.tu h2 hb⟩
 ty h hg hne := by
  obtain ⟨c1, c2, e, h1, h2⟩ := h
  rw [List.mem_append, not_or] at hne
  exact ⟨c1, c2, e, X.ty h1 hg hne.1, Y.ty h2 hg hne.2⟩
 tm h hg := by obtain ⟨c1, c2, e, h1, h2⟩ := h; exact ⟨c1, c2, e, X.tm h1 hg, Y.tm h2 hg⟩
def GoT.map {α β : Type} (f : α → β) (X : GoT α) : GoT β where
 sz := X.sz
 tys := X.tys
 R w cs b := ∃ a, f a = b ∧ X.R w cs a
 T w cs b := ∃ a, f a = b ∧ X.T w cs a
 len h := by obtain ⟨a, _, h⟩ := h; exact X.len h
 u h hb := by obtain ⟨a, e, h⟩ := h; exact ⟨a, e, X.u h hb⟩
 tr h := by obtain ⟨a, e, h⟩ := h; exact ⟨a, e, X.tr h⟩
 tu h hb := by obtain ⟨a, e, h⟩ := h; exact ⟨a, e, X.tu h hb⟩
 ty h hg hne := by obtain ⟨a, e, h⟩ := h; exact ⟨a, e, X.ty h hg hne⟩
 tm h hg := by obtain ⟨a, e, h⟩ := h; exact ⟨a, e, X.tm h hg⟩

def part (xs : List Value) (m i : Nat) : List Value := (xs.drop (i * m)).take m
theorem part_get {xs : List Value} {m i j : Nat} (hj : j < m) : (part xs m i)[j]? = xs[i * m + j]? := by
 unfold part
 rw [List.getElem?_take_of_lt hj, List.getElem?_drop]
def CellsAt (w : World) (A : Option Addr) (k : Nat) (cs : List Value) : Prop := ∀ j v, cs[j]? = some v → w.cell? (adr A (k + j)) = some v
section
variable {w w' : World} {A : Option Addr} {k n m : Nat} {cs xs : List Value}
theorem CellsAt.u (h : CellsAt w A k cs) (hb : Below w.heap.size w w') : CellsAt w' A k cs := fun j v hj => (hb.cell (block_lt_of_cell (h j v hj))).trans (h j v hj)
theorem Reads.cellsAt {i : Nat} (h : Reads w m A n xs) (hi : i < n) (h0 : 0 < m) : CellsAt w A (i * m) (part xs m i) := fun j v hj => by
 have hne : xs ≠ [] := fun e => by
  have := h.1
  rw [e, List.length_nil] at this
  rcases Nat.mul_eq_zero.1 this.symm with h | h <;> omega
 have hjm : j < m := by
  rcases Nat.lt_or_ge j m with h1 | h1
  ·exact h1
  ·rw [List.getElem?_eq_none (by unfold part; rw [List.length_take]; omega)] at hj; cases hj
 rw [part_get hjm] at hj
 exact (h.adr_ hne).2 _ _ hj
end
def GoT.slice {α : Type} (e : TypeId) (X : GoT α) : GoT (List α) where
 sz := 1
 tys := e :: X.tys
 R w cs l := ∃ A c xs, cs = [.slice A l.length c] ∧ l.length ≤ c ∧ c ≤ maxLen ∧ Reads w X.sz A l.length xs ∧ ∀ i (h : i < l.length), X.R w (part xs X.sz i) l[i]
 T w cs l := ∃ A c xs, cs = [.slice A l.length c] ∧ l.length ≤ c ∧ c ≤ maxLen ∧ Reads w X.sz A l.length xs ∧ (∀ k, blk A = some k → TyAt w k e) ∧ ∀ i (h : i < l.length), X.T w (part xs X.sz i) l[i]
 len h := by obtain ⟨A, c, xs, rfl, _⟩ := h; rfl
 u h hb := by obtain ⟨A, c, xs, e, h1, h2, h3, h4⟩ := h; exact ⟨A, c, xs, e, h1, h2, h3.below hb, fun i hi => X.u (h4 i hi) hb⟩
 tr h := by obtain ⟨A, c, xs, e, h1, h2, h3, _, h4⟩ := h; exact ⟨A, c, xs, e, h1, h2, h3, fun i hi => X.tr (h4 i hi)⟩
 tu h hb := by
  obtain ⟨A, c, xs, e, h1, h2, h3, h4, h5⟩ := h
  exact ⟨A, c, xs, e, h1, h2, h3.below hb, fun k hk => (h4 k hk).keep (hb.block k (h4 k hk).lt), fun i hi => X.tu (h5 i hi) hb⟩
 ty h hg hne := by
  obtain ⟨A, c, xs, e, h1, h2, h3, h4, h5⟩ := h
  rw [List.mem_cons, not_or] at hne
  have hb := grew_blk hg h4 hne.1
  refine ⟨A, c, xs, e, h1, h2, h3.grown hg.g hb, fun k hk => (h4 k hk).keep (hg.g.block k (h4 k hk).lt (fun e => ?_)), fun i hi => X.ty (h5 i hi) hg hne.2⟩
  rcases hb with h6 | h6
  ·rw [h6] at hk; cases hk
  ·exact h6 (hk.trans e)
 tm h hg := by
  obtain ⟨A, c, xs, e, h1, h2, h3, h4, h5⟩ := h
  have hb := growm_blk hg h4
  refine ⟨A, c, xs, e, h1, h2, h3.grown hg.g hb, fun k hk => (h4 k hk).keep (hg.g.block k (h4 k hk).lt (fun e => ?_)), fun i hi => X.tm (h5 i hi) hg⟩
  rcases hb with h6 | h6
  ·rw [h6] at hk; cases hk
  ·exact h6 (hk.trans e)

def RSl {α : Type} (X : GoT α) (w : World) (A : Option Addr) (L : List α) : Prop := ∃ xs, Reads w X.sz A L.length xs ∧ ∀ i (h : i < L.length), X.R w (part xs X.sz i) L[i]
section
variable {α : Type} {X : GoT α} {w w' : World} {A : Option Addr} {L : List α}
theorem RSl.u (h : RSl X w A L) (hb : Below w.heap.size w w') : RSl X w' A L := by obtain ⟨xs, h1, h2⟩ := h; exact ⟨xs, h1.below hb, fun i hi => X.u (h2 i hi) hb⟩
theorem RSl.some_ (h : RSl X w A L) (h0 : 0 < X.sz) (hl : 0 < L.length) : A = some (A.getD ⟨0, 0, none⟩) := by obtain ⟨xs, h1, h2⟩ := h; exact h1.some_ h0 hl
theorem RSl.elem (h : RSl X w A L) (h0 : 0 < X.sz) {i : Nat} (hi : i < L.length) : ∃ cs, CellsAt w A (i * X.sz) cs ∧ X.R w cs L[i] := by obtain ⟨xs, h1, h2⟩ := h; exact ⟨_, h1.cellsAt hi h0, h2 i hi⟩
theorem RSl.nil (X : GoT α) (w : World) (A : Option Addr) : RSl X w A [] := ⟨[], Reads.none_ _ _ _, fun i h => absurd h (Nat.not_lt_zero _)⟩
theorem slice_RSl {e : TypeId} {cs : List Value} (h : (GoT.slice e X).R w cs L) : ∃ A c, cs = [.slice A L.length c] ∧ RSl X w A L ∧ L.length ≤ c ∧ c ≤ maxLen := by
 obtain ⟨A, c, xs, rfl, h1, h2, h3, h4⟩ := h
 exact ⟨A, c, rfl, ⟨xs, h3, h4⟩, h1, h2⟩
end

/-! Arguments, opened. -/
structure Opens {α : Type} (P : Program) (t : TypeId) (X : GoT α) : Prop where
 cells : P.cellsOf t = X.sz
 o : ∀ (H : Type) (enc : TypeId × Value → H) (W : World) (fuel : Nat) (cs : List Value) (x : DataW H × List MemPlace), DataW.trod enc P W 0 (fun _ => true) true fuel t cs = some x → ∃ a, X.R W cs a
section
variable {α β γ δ : Type} {P : Program} {t e : TypeId}
theorem opens_int {k : IntKind} (hu : P.underlying t = some (.int k)) (hc : P.cellsOf t = 1) : Opens P t (gInt k) := ⟨hc, fun H enc W fuel cs x h => by
 obtain ⟨n, rfl, _, hw⟩ := DataW.trod_int hu h
 exact ⟨n, rfl, hw⟩⟩
theorem opens_bytes (hu : P.underlying t = some (.slice 5)) (he : P.underlying 5 = some (.int .u8)) (hc : P.cellsOf 5 = 1) (ht : P.cellsOf t = 1) : Opens P t gBytes := ⟨ht, fun H enc W fuel cs x h => by
 rcases open_ints hu he hc h with ⟨hcs, hx⟩ | ⟨a, len, cap, zS, hcs, _, hl, hm, hz, hx, hcell, hwz⟩
 ·exact ⟨[], none, 0, hcs, Rd.nil _ _, Nat.le_refl _, Nat.zero_le _⟩
 ·have hzl : zS.length = cap := by simpa using hz
  have hr : Reads W 1 (some a) (zS.take len).length ((zS.take len).map (Value.int .u8)) := by
   have := reads_of_cells (w := W) (a := a) (xs := (zS.take len).map (Value.int .u8)) (fun i v hv => by
    have hi : i < (zS.take len).length := by
     rcases Nat.lt_or_ge i (zS.take len).length with h | h
     ·exact h
     ·rw [List.getElem?_eq_none (by simpa using h)] at hv; cases hv
    rw [List.length_take] at hi
    rw [hcell i (by omega)]
    have hi2 : i < zS.length := by omega
    rw [List.getElem?_map, List.getElem?_take_of_lt (by omega), List.getElem?_eq_getElem hi2] at hv
    rw [← Option.some.inj hv]
    simp [hi2])
   simpa using this
  have hb : ∀ n ∈ zS.take len, n = (((UInt8.ofNat n.toNat).toNat : Nat) : Int) := fun n hn => by
   have h1 := bounds_u8 (hwz n (List.mem_of_mem_take hn))
   exact byte_of n h1.1 h1.2
  have e : (zS.take len).map (Value.int .u8) = B8 ((zS.take len).map fun n => UInt8.ofNat n.toNat) := by
   unfold B8
   rw [List.map_map]
   exact List.map_congr_left fun n hn => by simp only [Function.comp]; rw [← hb n hn]
  refine ⟨(zS.take len).map fun n => UInt8.ofNat n.toNat, some a, cap, ?_, ?_, by simp; omega, hm⟩
  ·rw [hcs]; simp; omega
  ·unfold Rd
   rw [← e, List.length_map]
   exact hr⟩
theorem part_append_lt {xs ys : List Value} {m i k : Nat} (hx : xs.length = k * m) (hi : i < k) : part (xs ++ ys) m i = part xs m i := by
 have h1 : (i + 1) * m ≤ k * m := Nat.mul_le_mul_right _ hi
 rw [Nat.add_mul, Nat.one_mul] at h1
 unfold part
 rw [List.drop_append_of_le_length (by omega), List.take_append_of_le_length (by rw [List.length_drop]; omega)]
theorem part_append_eq {xs ys : List Value} {m k : Nat} (hx : xs.length = k * m) (hy : ys.length = m) : part (xs ++ ys) m k = ys := by
 unfold part
 rw [← hx, List.drop_left, ← hy, List.take_length]
theorem build_rows {X : GoT α} {W : World} {a : Addr} : ∀ (k : Nat), (∀ i, i < k → ∃ cs' z, W.cells? 0 (a.add (i * X.sz)) X.sz = some cs' ∧ X.R W cs' z) →
  ∃ (l : List α) (xs : List Value), l.length = k ∧ xs.length = k * X.sz ∧ (∀ j v, xs[j]? = some v → W.cell? (a.add j) = some v) ∧ ∀ i (h : i < l.length), X.R W (part xs X.sz i) l[i]
 | 0, _ => ⟨[], [], rfl, by simp, fun j v h => by simp at h, fun i h => absurd h (Nat.not_lt_zero _)⟩
 | k + 1, h => by
  obtain ⟨l, xs, h1, h2, h3, h4⟩ := build_rows k (fun i hi => h i (by omega))
  obtain ⟨cs', z, h5, h6⟩ := h k (by omega)
  obtain ⟨_, h7, h8⟩ := World.cells?_some h5
  refine ⟨l ++ [z], xs ++ cs', by simp [h1], by rw [List.length_append, h2, h7, Nat.add_mul, Nat.one_mul], fun j v hj => ?_, fun i hi => ?_⟩
  ·rcases Nat.lt_or_ge j xs.length with hl | hl
   ·rw [List.getElem?_append_left hl] at hj
    exact h3 j v hj
   ·rw [List.getElem?_append_right hl] at hj
    have hjl : j - xs.length < X.sz := by
     rcases Nat.lt_or_ge (j - xs.length) X.sz with h9 | h9
     ·exact h9
     ·rw [List.getElem?_eq_none (by omega)] at hj; cases hj
    have := h8 _ hjl
    rw [hj, add_of_add] at this
    rw [← this]
    congr 2
    omega
  ·rcases Nat.lt_or_ge i l.length with hl | hl
   ·rw [part_append_lt h2 (by omega), List.getElem_append_left hl]
    exact h4 i hl
   ·have hik : i = k := by simp at hi; omega
    subst hik
    rw [part_append_eq h2 h7, List.getElem_append_right hl]
    simpa using h6
theorem opens_slice {X : GoT α} (hu : P.underlying t = some (.slice e)) (hc : P.cellsOf t = 1) (h0 : 0 < X.sz) (hX : Opens P e X) : Opens P t (GoT.slice e X) := ⟨hc, fun H enc W fuel cs x h => by
 rcases Go.Deep.open_slice hu h with ⟨rfl, _⟩ | ⟨a, len, cap, m, n, D, Pl, rfl, _, hl, hm, hmm, _, hx⟩
 ·exact ⟨[], none, 0, [], rfl, Nat.le_refl _, Nat.zero_le _, Reads.none_ _ _ _, fun i h => absurd h (Nat.not_lt_zero _)⟩
 ·rw [if_pos rfl] at hmm
  subst hmm
  obtain ⟨l, xs, h1, h2, h3, h4⟩ := build_rows (X := X) (W := W) (a := a) len (fun i hi => by
   obtain ⟨cs', h1, h2⟩ := hx i (by omega)
   obtain ⟨z, hz⟩ := hX.o _ _ _ _ _ _ h2
   rw [hX.cells] at h1
   exact ⟨cs', z, h1, hz⟩)
  refine ⟨l, some a, m, xs, by rw [h1], by omega, hm, ⟨by rw [h1]; exact h2, fun hn => ?_⟩, h4⟩
  have h00 : ∃ v, xs[0]? = some v := by
   cases xs with
   | nil => exact absurd rfl hn
   | cons x _ => exact ⟨x, rfl⟩
  obtain ⟨v0, hv0⟩ := h00
  have hc := h3 0 v0 hv0
  rw [show a.add 0 = a by simp [Addr.add]] at hc
  have hs := spot_of_cell hc
  exact ⟨a.block, a.off, by rw [← hs], fun j u hu => by rw [← add_plain, ← hs]; exact h3 j u hu⟩⟩
theorem opens_arr8 {n : Nat} (hu : P.underlying t = some (.array n 5)) (he : P.underlying 5 = some (.int .u8)) (hc : P.cellsOf 5 = 1) (ht : P.cellsOf t = n) : Opens P t (gArr n) := ⟨ht, fun H enc W fuel cs x h => by
 obtain ⟨xs, m, _, _, hl, _, hx⟩ := DataW.trod_array hu h
 rw [ht] at hl
 obtain ⟨l, rfl⟩ := bytes_of_vals cs (fun v hv => by
  obtain ⟨i, hi, rfl⟩ := List.mem_iff_getElem.1 hv
  have h1 := hx i (by omega)
  rw [hc, Nat.mul_one, List.drop_eq_getElem_cons hi, List.take_succ_cons, List.take_zero] at h1
  have hxi : i < xs.length := by omega
  rw [List.getElem?_eq_getElem hxi] at h1
  obtain ⟨z, e, _, hw⟩ := DataW.trod_int he h1
  injection e with e _
  exact ⟨z, e, bounds_u8 hw⟩)
 exact ⟨⟨l, by rw [← hl, B8_length]⟩, rfl⟩⟩
inductive OpensF (P : Program) : (α : Type) → List Field → Nat → GoT α → Prop where
 | one {α : Type} {f : Field} {off : Nat} {X : GoT α} (h : Opens P f.type X) (ho : f.offset = off) : OpensF P α [f] off X
 | more {α β : Type} {f : Field} {fs : List Field} {off : Nat} {X : GoT α} {Y : GoT β} (h : Opens P f.type X) (ho : f.offset = off) (hr : OpensF P β fs (off + X.sz) Y) : OpensF P (α × β) (f :: fs) off (X.pair Y)
theorem OpensF.open_ {α : Type} {fs : List Field} {off : Nat} {X : GoT α} (hF : OpensF P α fs off X) (H : Type) (enc : TypeId × Value → H) (W : World) (fuel : Nat) : ∀ (cs : List Value), cs.length = off + X.sz →
  (∀ (i : Nat) (f : Field), fs[i]? = some f → ∃ x, DataW.trod enc P W 0 (fun _ => true) true fuel f.type ((cs.drop f.offset).take (P.cellsOf f.type)) = some x) → ∃ a, X.R W (cs.drop off) a := by
 induction hF with
 | one h ho =>
  intro cs hl hx
  obtain ⟨x, h1⟩ := hx 0 _ rfl
  rw [ho, h.cells] at h1
  obtain ⟨a, ha⟩ := h.o _ _ _ _ _ _ h1
  rw [List.take_of_length_le (by rw [List.length_drop]; omega)] at ha
  exact ⟨a, ha⟩
 | @more α β f fs off X Y h ho hr ih =>
  intro cs hl hx
  have hl' : cs.length = off + (X.sz + Y.sz) := hl
  obtain ⟨x, h1⟩ := hx 0 f rfl
  rw [ho, h.cells] at h1
  obtain ⟨a, ha⟩ := h.o _ _ _ _ _ _ h1
  obtain ⟨b, hb⟩ := ih cs (by omega) (fun i f' hf => hx (i + 1) f' (by simpa using hf))
  refine ⟨(a, b), _, _, ?_, ha, hb⟩
  rw [← List.drop_drop, List.take_append_drop]
theorem opens_struct {α : Type} {fs : List Field} {X : GoT α} (hu : P.underlying t = some (.struct fs.toArray)) (hc : P.cellsOf t = X.sz) (hF : OpensF P α fs 0 X) : Opens P t X := ⟨hc, fun H enc W fuel cs x h => by
 obtain ⟨xs, n, rfl, _, hl, hn, hx⟩ := DataW.trod_struct hu h
 have := hF.open_ H enc W n cs (by rw [hl, hc]; omega) (fun i f hf => by
  have h1 := hx i f (by simpa using hf)
  have hi : i < xs.length := by
   rw [hn]
   rcases Nat.lt_or_ge i fs.toArray.size with h2 | h2
   ·exact h2
   ·rw [List.getElem?_eq_none (by simpa using h2)] at hf; cases hf
  rw [List.getElem?_eq_getElem hi] at h1
  exact ⟨_, h1⟩)
 simpa using this⟩
end
theorem open_agg {α : Type} {H : Type} {enc : TypeId × Value → H} {P : Program} {W : World} {base : Nat} {t : TypeId} {X : GoT α} (hX : Opens P t X) (hu : (∃ fs, P.underlying t = some (.struct fs)) ∨ ∃ n e, P.underlying t = some (.array n e)) {v : Value} {d : DataW H} {p : List MemPlace}
  (hok : Value.okWide P W .any base t v) (h : DataW.Trod enc P W 0 (fun _ => true) true t v d p) : ∃ (cs : List Value) (a : α), v = .agg cs.toArray ∧ X.R W cs a := by
 obtain ⟨fuel, hf⟩ := h
 obtain ⟨a, ha⟩ := hX.o _ _ _ _ _ _ hf
 have hv : ∃ cs, v = .agg cs := by
  rcases hu with ⟨fs, hu⟩ | ⟨n, e, hu⟩ <;> (simp only [Value.okWide, hu] at hok; obtain ⟨cs, rfl, _⟩ := hok; exact ⟨cs, rfl⟩)
 obtain ⟨cs, rfl⟩ := hv
 exact ⟨cs.toList, a, rfl, ha⟩
theorem open_slc {α : Type} {H : Type} {enc : TypeId × Value → H} {P : Program} {W : World} {base : Nat} {t e : TypeId} {X : GoT α} (hX : Opens P t X) (hu : P.underlying t = some (.slice e)) {v : Value} {d : DataW H} {p : List MemPlace}
  (hok : Value.okWide P W .any base t v) (h : DataW.Trod enc P W 0 (fun _ => true) true t v d p) : ∃ (a : α), X.R W [v] a := by
 obtain ⟨A, n, c, rfl⟩ := okWide_slice hu hok
 obtain ⟨fuel, hf⟩ := h
 exact hX.o _ _ _ _ _ _ hf
end Go.Proofs.YtahkeoegbjopfaaGreat
namespace Go.Proofs.YtahkeoegbjopfaaGreat
set_option maxRecDepth 100000
open Go.RowKit
attribute [local irreducible] carryS openS closeS plusS minusS timesS powerS ofS shiftedS
theorem Tryz.eqg_Num : Tryz.prog.eqGuardType Tryz.prog.depth 108 = false := by kernel_rfl
section
variable {N : Nat} {fr : Fr} {w : World} {ty t' : TypeId} {x y : Operand} {u v : N32} {ps : Array (Nat × Operand)}
theorem o_eqNum (hx : fr.ev x = some (.agg (B8 u.1).toArray)) (hy : fr.ev y = some (.agg (B8 v.1).toArray)) : OpV Tryz.prog N fr w (.binOp .eql 108 x y t') ty (.bool (decide (u = v))) w := by
 have h := o_aeq (P := Tryz.prog) (N := N) (fr := fr) (w := w) (ty := ty) (t' := t') Tryz.underlying108 Tryz.underlying5 Tryz.sizeOf5 Tryz.eqg_Num hx hy u.2 v.2
 rwa [show decide (u.1 = v.1) = decide (u = v) from decide_eq_decide.2 Subtype.ext_iff.symm] at h
theorem o_neNum (hx : fr.ev x = some (.agg (B8 u.1).toArray)) (hy : fr.ev y = some (.agg (B8 v.1).toArray)) : OpV Tryz.prog N fr w (.binOp .neq 108 x y t') ty (.bool (decide (u ≠ v))) w := by
 have h := o_ane (P := Tryz.prog) (N := N) (fr := fr) (w := w) (ty := ty) (t' := t') Tryz.underlying108 Tryz.underlying5 Tryz.sizeOf5 Tryz.eqg_Num hx hy u.2 v.2
 rwa [show decide (u.1 ≠ v.1) = decide (u ≠ v) from decide_eq_decide.2 (not_congr Subtype.ext_iff.symm)] at h
theorem o_num0 (hp : ps = #[]) : OpV Tryz.prog N fr w (.build 108 ps) ty (.agg (B8 n32z.1).toArray) w := by
 subst hp
 exact o_buildga (is := []) (xs := []) (vs := []) (B8 n32z.1) Tryz.underlying108 Tryz.sizeOf5 Tryz.zeroValue108 rfl rfl rfl (by rfl) rfl (fun _ => by kernel_rfl)
end
set_option maxRecDepth 100000 in
theorem C_f3Rest {a r : N32} (w : World) (hr : restS a = r) :
  CallsR Tryz.prog 146 [.agg (B8 a.1).toArray] w fun v w' => v = .agg (B8 r.1).toArray ∧ Below w.heap.size w w' := by
 have ha := a.2
 obtain ⟨x, hx⟩ : ∃ q, openS a = q := ⟨_, rfl⟩
 have hy : closeS x = r := by rw [← hx]; exact hr
 refine callsR Tryz.func146 rfl rfl (by kernel_rfl) rfl ?_
 have hw := Below.refl w.heap.size w
 refine zs ?_
 refine wl_boxg _ rfl (by rfl) ?_
 rintro g1 w1 f1 b1 i1 i1_1
 have s1 := b1.size
 replace hw := hw.trans (b1.mono hw.size)
 refine wl_allocB Tryz.underlying108 Tryz.zeroValue108 (by rfl) ?_
 rintro g2 w2 f2 b2 i2 i2_1
 have s2 := b2.size
 replace hw := hw.trans (b2.mono hw.size)
 replace f1 := f1.u b2
 refine wl_nil (zs ?_)
 refine wl_r (o_ldBa Tryz.isAgg108 Tryz.sizeOf108 rfl f1 ha) ?_
 refine wl_call rfl (C_f3Open _ hx) ?_
 rintro v4 w4 ⟨rfl, b4⟩
 have s4 := b4.size
 replace hw := hw.trans (b4.mono hw.size)
 replace f1 := f1.u b4
 replace f2 := f2.u b4
 refine wl_call rfl (C_f3Close _ hy) ?_
 rintro v5 w5 ⟨rfl, b5⟩
 have s5 := b5.size
 replace hw := hw.trans (b5.mono hw.size)
 replace f2 := f2.u b5
 replace f1 := f1.u b5
 refine wl_stBa Tryz.sizeOf108 rfl f2 rfl (by omega) (by rfl) ?_
 rintro w_1 f g e
 have s := g.size
 replace hw := hw.trans (below_of_grownBy g.g hw.size (by omega))
 replace f1 := f1.k g.g (ap_some (by omega))
 clear f2
 refine wl_nil ?_
 refine ret_cell rfl rfl Tryz.isAgg108 Tryz.sizeOf108 (by assumption) (by first | exact vI10 | exact b32 | exact ptC_len _ | exact frC_len _ | rfl) ?_
 exact ⟨rfl, hw⟩
set_option maxRecDepth 100000 in
theorem C_f3Sub {a b r : N32} (w : World) (hr : subS a b = r) :
  CallsR Tryz.prog 144 [.agg (B8 a.1).toArray, .agg (B8 b.1).toArray] w fun v w' => v = .agg (B8 r.1).toArray ∧ Below w.heap.size w w' := by
 have ha := a.2
 have hb := b.2
 obtain ⟨x, hx⟩ : ∃ q, openS a = q := ⟨_, rfl⟩
 obtain ⟨y, hy⟩ : ∃ q, openS b = q := ⟨_, rfl⟩
 obtain ⟨z, hz⟩ : ∃ q, minusS x y = q := ⟨_, rfl⟩
 have hc : closeS z = r := by rw [← hz, ← hy, ← hx]; exact hr
 refine callsR Tryz.func144 rfl rfl (by kernel_rfl) rfl ?_
 have hw := Below.refl w.heap.size w
 refine zs ?_
 refine wl_boxg _ rfl (by rfl) ?_
 rintro g2 w2 f2 b2 i2 i2_1
 have s2 := b2.size
 replace hw := hw.trans (b2.mono hw.size)
 refine wl_boxg _ rfl (by rfl) ?_
 rintro g3 w3 f3 b3 i3 i3_1
 have s3 := b3.size
 replace hw := hw.trans (b3.mono hw.size)
 replace f2 := f2.u b3
 refine wl_allocB Tryz.underlying108 Tryz.zeroValue108 (by rfl) ?_
 rintro g4 w4 f4 b4 i4 i4_1
 have s4 := b4.size
 replace hw := hw.trans (b4.mono hw.size)
 replace f2 := f2.u b4
 replace f3 := f3.u b4
 refine wl_nil (rk_seq ?_)
 refine rk_drawo (id := 1) (none) [0, 1, 0, 6, 10, 16, 63] [0, 1, 0, 7, 15, 31, 63] 122 2 [0, 2, 1, 3, 4, 5, 6] [(.r, 0), (.s, 2), (.c, 1), (.l, 3), (.l, 4), (.l, 5), (.l, 6)] (by kernel_rfl) (by kernel_rfl) (by kernel_rfl) (by kernel_rfl) (by kernel_rfl) ?_
 dsimp only [inOrder, nthOp]
 replace hw := hw.drew
 replace f3 := f3.d
 replace f2 := f2.d
 replace f4 := f4.d
 refine wl_r (o_ldBa Tryz.isAgg108 Tryz.sizeOf108 rfl f2 ha) ?_
 refine wl_s (fun _ hk => (o_ldBa Tryz.isAgg108 Tryz.sizeOf108 rfl (f3.u (below_of_grown_none hk)) hb)) ?_
 refine wl_call rfl (C_f3Open _ hx) ?_ (hq := .inr fun _ _ h => grown_of_below h.2 _)
 rintro v6 w6 ⟨rfl, b6⟩
 simp only [drew_size] at b6
 have s6 := b6.size
 simp only [drew_size] at s6
 replace hw := hw.trans (b6.mono hw.size)
 replace f4 := f4.u b6
 replace f2 := f2.u b6
 replace f3 := f3.u b6
 refine wl_call rfl (C_f3Open _ hy) ?_
 rintro v8 w8 ⟨rfl, b8⟩
 have s8 := b8.size
 replace hw := hw.trans (b8.mono hw.size)
 replace f3 := f3.u b8
 replace f2 := f2.u b8
 replace f4 := f4.u b8
 refine wl_call rfl (C_f3Minus _ hz) ?_
 rintro v9 w9 ⟨rfl, b9⟩
 have s9 := b9.size
 replace hw := hw.trans (b9.mono hw.size)
 replace f4 := f4.u b9
 replace f2 := f2.u b9
 replace f3 := f3.u b9
 refine wl_call rfl (C_f3Close _ hc) ?_
 rintro v10 w10 ⟨rfl, b10⟩
 have s10 := b10.size
 replace hw := hw.trans (b10.mono hw.size)
 replace f3 := f3.u b10
 replace f2 := f2.u b10
 replace f4 := f4.u b10
 refine wl_stBa Tryz.sizeOf108 rfl f4 rfl (by omega) (by rfl) ?_
 rintro w_1 f g e
 have s := g.size
 replace hw := hw.trans (below_of_grownBy g.g hw.size (by omega))
 replace f2 := f2.k g.g (ap_some (by omega))
 replace f3 := f3.k g.g (ap_some (by omega))
 clear f4
 refine wl_nild ?_
 refine ret_cell rfl rfl Tryz.isAgg108 Tryz.sizeOf108 (by assumption) (by first | exact vI10 | exact b32 | exact ptC_len _ | exact frC_len _ | rfl) ?_
 exact ⟨rfl, hw⟩
set_option maxRecDepth 100000 in
theorem C_f3Mul {a b r : N32} (w : World) (hr : mulS a b = r) :
  CallsR Tryz.prog 113 [.agg (B8 a.1).toArray, .agg (B8 b.1).toArray] w fun v w' => v = .agg (B8 r.1).toArray ∧ Below w.heap.size w w' := by
 have ha := a.2
 have hb := b.2
 obtain ⟨x, hx⟩ : ∃ q, openS a = q := ⟨_, rfl⟩
 obtain ⟨y, hy⟩ : ∃ q, openS b = q := ⟨_, rfl⟩
 obtain ⟨z, hz⟩ : ∃ q, timesS x y = q := ⟨_, rfl⟩
 have hc : closeS z = r := by rw [← hz, ← hy, ← hx]; exact hr
 refine callsR Tryz.func113 rfl rfl (by kernel_rfl) rfl ?_
 have hw := Below.refl w.heap.size w
 refine zs ?_
 refine wl_boxg _ rfl (by rfl) ?_
 rintro g2 w2 f2 b2 i2 i2_1
 have s2 := b2.size
 replace hw := hw.trans (b2.mono hw.size)
 refine wl_boxg _ rfl (by rfl) ?_
 rintro g3 w3 f3 b3 i3 i3_1
 have s3 := b3.size
 replace hw := hw.trans (b3.mono hw.size)
 replace f2 := f2.u b3
 refine wl_allocB Tryz.underlying108 Tryz.zeroValue108 (by rfl) ?_
 rintro g4 w4 f4 b4 i4 i4_1
 have s4 := b4.size
 replace hw := hw.trans (b4.mono hw.size)
 replace f2 := f2.u b4
 replace f3 := f3.u b4
 refine wl_nil (rk_seq ?_)
 refine rk_drawo (id := 1) (none) [0, 1, 0, 6, 10, 16, 63] [0, 1, 0, 7, 15, 31, 63] 122 2 [0, 2, 1, 3, 4, 5, 6] [(.r, 0), (.s, 2), (.c, 1), (.l, 3), (.l, 4), (.l, 5), (.l, 6)] (by kernel_rfl) (by kernel_rfl) (by kernel_rfl) (by kernel_rfl) (by kernel_rfl) ?_
 dsimp only [inOrder, nthOp]
 replace hw := hw.drew
 replace f3 := f3.d
 replace f2 := f2.d
 replace f4 := f4.d
 refine wl_r (o_ldBa Tryz.isAgg108 Tryz.sizeOf108 rfl f2 ha) ?_
 refine wl_s (fun _ hk => (o_ldBa Tryz.isAgg108 Tryz.sizeOf108 rfl (f3.u (below_of_grown_none hk)) hb)) ?_
 refine wl_call rfl (C_f3Open _ hx) ?_ (hq := .inr fun _ _ h => grown_of_below h.2 _)
 rintro v6 w6 ⟨rfl, b6⟩
 simp only [drew_size] at b6
 have s6 := b6.size
 simp only [drew_size] at s6
 replace hw := hw.trans (b6.mono hw.size)
 replace f4 := f4.u b6
 replace f2 := f2.u b6
 replace f3 := f3.u b6
 refine wl_call rfl (C_f3Open _ hy) ?_
 rintro v8 w8 ⟨rfl, b8⟩
 have s8 := b8.size
 replace hw := hw.trans (b8.mono hw.size)
 replace f3 := f3.u b8
 replace f2 := f2.u b8
 replace f4 := f4.u b8
 refine wl_call rfl (C_f3Times _ hz) ?_
 rintro v9 w9 ⟨rfl, b9⟩
 have s9 := b9.size
 replace hw := hw.trans (b9.mono hw.size)
 replace f4 := f4.u b9
 replace f2 := f2.u b9
 replace f3 := f3.u b9
 refine wl_call rfl (C_f3Close _ hc) ?_
 rintro v10 w10 ⟨rfl, b10⟩
 have s10 := b10.size
 replace hw := hw.trans (b10.mono hw.size)
 replace f3 := f3.u b10
 replace f2 := f2.u b10
 replace f4 := f4.u b10
 refine wl_stBa Tryz.sizeOf108 rfl f4 rfl (by omega) (by rfl) ?_
 rintro w_1 f g e
 have s := g.size
 replace hw := hw.trans (below_of_grownBy g.g hw.size (by omega))
 replace f2 := f2.k g.g (ap_some (by omega))
 replace f3 := f3.k g.g (ap_some (by omega))
 clear f4
 refine wl_nild ?_
 refine ret_cell rfl rfl Tryz.isAgg108 Tryz.sizeOf108 (by assumption) (by first | exact vI10 | exact b32 | exact ptC_len _ | exact frC_len _ | rfl) ?_
 exact ⟨rfl, hw⟩
set_option maxRecDepth 100000 in
theorem C_f3Pow {a e r : N32} (w : World) (hr : powS a e = r) :
  CallsR Tryz.prog 155 [.agg (B8 a.1).toArray, .agg (B8 e.1).toArray] w fun v w' => v = .agg (B8 r.1).toArray ∧ Below w.heap.size w w' := by
 have ha := a.2
 have he := e.2
 obtain ⟨x, hx⟩ : ∃ q, openS a = q := ⟨_, rfl⟩
 obtain ⟨y, hy⟩ : ∃ q, powerS x e = q := ⟨_, rfl⟩
 have hc : closeS y = r := by rw [← hy, ← hx]; exact hr
 refine callsR Tryz.func155 rfl rfl (by kernel_rfl) rfl ?_
 have hw := Below.refl w.heap.size w
 refine zs ?_
 refine wl_boxg _ rfl (by rfl) ?_
 rintro g2 w2 f2 b2 i2 i2_1
 have s2 := b2.size
 replace hw := hw.trans (b2.mono hw.size)
 refine wl_boxg _ rfl (by rfl) ?_
 rintro g3 w3 f3 b3 i3 i3_1
 have s3 := b3.size
 replace hw := hw.trans (b3.mono hw.size)
 replace f2 := f2.u b3
 refine wl_allocB Tryz.underlying108 Tryz.zeroValue108 (by rfl) ?_
 rintro g4 w4 f4 b4 i4 i4_1
 have s4 := b4.size
 replace hw := hw.trans (b4.mono hw.size)
 replace f2 := f2.u b4
 replace f3 := f3.u b4
 refine wl_nil (rk_seq ?_)
 refine rk_drawo (id := 1) (none) [0, 1, 0, 6, 8, 31] [0, 1, 0, 7, 15, 31] 58 2 [0, 2, 1, 3, 4, 5] [(.r, 0), (.s, 2), (.c, 1), (.l, 3), (.l, 4), (.l, 5)] (by kernel_rfl) (by kernel_rfl) (by kernel_rfl) (by kernel_rfl) (by kernel_rfl) ?_
 dsimp only [inOrder, nthOp]
 replace hw := hw.drew
 replace f3 := f3.d
 replace f2 := f2.d
 replace f4 := f4.d
 refine wl_r (o_ldBa Tryz.isAgg108 Tryz.sizeOf108 rfl f2 ha) ?_
 refine wl_s (fun _ hk => (o_ldBa Tryz.isAgg108 Tryz.sizeOf108 rfl (f3.u (below_of_grown_none hk)) he)) ?_
 refine wl_call rfl (C_f3Open _ hx) ?_ (hq := .inr fun _ _ h => grown_of_below h.2 _)
 rintro v6 w6 ⟨rfl, b6⟩
 simp only [drew_size] at b6
 have s6 := b6.size
 simp only [drew_size] at s6
 replace hw := hw.trans (b6.mono hw.size)
 replace f4 := f4.u b6
 replace f2 := f2.u b6
 replace f3 := f3.u b6
 refine wl_call rfl (C_f3Power _ hy) ?_
 rintro v8 w8 ⟨rfl, b8⟩
 have s8 := b8.size
 replace hw := hw.trans (b8.mono hw.size)
 replace f3 := f3.u b8
 replace f2 := f2.u b8
 replace f4 := f4.u b8
 refine wl_call rfl (C_f3Close _ hc) ?_
 rintro v9 w9 ⟨rfl, b9⟩
 have s9 := b9.size
 replace hw := hw.trans (b9.mono hw.size)
 replace f4 := f4.u b9
 replace f2 := f2.u b9
 replace f3 := f3.u b9
 refine wl_stBa Tryz.sizeOf108 rfl f4 rfl (by omega) (by rfl) ?_
 rintro w_1 f g e_1
 have s := g.size
 replace hw := hw.trans (below_of_grownBy g.g hw.size (by omega))
 replace f3 := f3.k g.g (ap_some (by omega))
 replace f2 := f2.k g.g (ap_some (by omega))
 clear f4
 refine wl_nild ?_
 refine ret_cell rfl rfl Tryz.isAgg108 Tryz.sizeOf108 (by assumption) (by first | exact vI10 | exact b32 | exact ptC_len _ | exact frC_len _ | rfl) ?_
 exact ⟨rfl, hw⟩
set_option maxRecDepth 100000 in
theorem C_f3Inv {a r : N32} (w : World) (hr : invS a = r) :
  CallsR Tryz.prog 115 [.agg (B8 a.1).toArray] w fun v w' => v = .agg (B8 r.1).toArray ∧ Below w.heap.size w w' := by
 have ha := a.2
 obtain ⟨x, hx⟩ : ∃ q, shiftedS 2 0 = q := ⟨_, rfl⟩
 have hc : powS a x = r := by rw [← hx]; exact hr
 refine callsR Tryz.func115 rfl rfl (by kernel_rfl) rfl ?_
 have hw := Below.refl w.heap.size w
 refine zs ?_
 refine wl_boxg _ rfl (by rfl) ?_
 rintro g1 w1 f1 b1 i1 i1_1
 have s1 := b1.size
 replace hw := hw.trans (b1.mono hw.size)
 refine wl_allocB Tryz.underlying108 Tryz.zeroValue108 (by rfl) ?_
 rintro g2 w2 f2 b2 i2 i2_1
 have s2 := b2.size
 replace hw := hw.trans (b2.mono hw.size)
 replace f1 := f1.u b2
 refine wl_nil (rk_seq ?_)
 refine rk_draw (id := 1) (none) [0, 0, 3, 7] [0, 0, 3, 7] 14 2 [(.s, 0), (.c, 1), (.l, 2), (.l, 3)] (by kernel_rfl) (by kernel_rfl) (by kernel_rfl) (by kernel_rfl) (by kernel_rfl) ?_
 replace hw := hw.drew
 replace f1 := f1.d
 replace f2 := f2.d
 refine wl_s (fun _ hk => (o_ldBa Tryz.isAgg108 Tryz.sizeOf108 rfl (f1.u (below_of_grown_none hk)) ha)) ?_
 refine wl_call rfl (C_f3shifted _ (by omega) (by omega) (by omega) hx) ?_ (hq := .inr fun _ _ h => grown_of_below h.2 _)
 rintro v4 w4 ⟨rfl, b4⟩
 simp only [drew_size] at b4
 have s4 := b4.size
 simp only [drew_size] at s4
 replace hw := hw.trans (b4.mono hw.size)
 replace f2 := f2.u b4
 replace f1 := f1.u b4
 refine wl_call rfl (C_f3Pow _ hc) ?_
 rintro v5 w5 ⟨rfl, b5⟩
 have s5 := b5.size
 replace hw := hw.trans (b5.mono hw.size)
 replace f1 := f1.u b5
 replace f2 := f2.u b5
 refine wl_stBa Tryz.sizeOf108 rfl f2 rfl (by omega) (by rfl) ?_
 rintro w_1 f g e
 have s := g.size
 replace hw := hw.trans (below_of_grownBy g.g hw.size (by omega))
 replace f1 := f1.k g.g (ap_some (by omega))
 clear f2
 refine wl_nild ?_
 refine ret_cell rfl rfl Tryz.isAgg108 Tryz.sizeOf108 (by assumption) (by first | exact vI10 | exact b32 | exact ptC_len _ | exact frC_len _ | rfl) ?_
 exact ⟨rfl, hw⟩
set_option maxRecDepth 100000 in
theorem C_f3Odd {a : N32} (w : World) :
  CallsR Tryz.prog 110 [.agg (B8 a.1).toArray] w fun v w' => v = .bool (decide (oddS a)) ∧ Below w.heap.size w w' := by
 have ha := a.2
 obtain ⟨x, hx⟩ : ∃ q, restS a = q := ⟨_, rfl⟩
 have hxl := x.2
 have ho : oddS a ↔ ((lo8 (((x.at 0).toNat % 2 : Nat) : Int)).toNat : Int) = 1 := by rw [← hx]; exact Iff.rfl
 refine callsR Tryz.func110 rfl rfl (by kernel_rfl) rfl ?_
 have hw := Below.refl w.heap.size w
 refine zs ?_
 refine wl_boxg _ rfl (by rfl) ?_
 rintro g1 w1 f1 b1 i1 i1_1
 have s1 := b1.size
 replace hw := hw.trans (b1.mono hw.size)
 refine za rfl (wl_nil (zs ?_))
 refine wl_r (o_ldBa Tryz.isAgg108 Tryz.sizeOf108 rfl f1 ha) ?_
 refine wl_call rfl (C_f3Rest _ hx) ?_
 rintro v4 w4 ⟨rfl, b4⟩
 have s4 := b4.size
 replace hw := hw.trans (b4.mono hw.size)
 replace f1 := f1.u b4
 refine zp (o_indexD (0) Tryz.underlying108 Tryz.sizeOf5 Tryz.isAgg5 rfl rfl (by omega) (by omega) hxl) ?_
 refine zp (o_rem8 (2) rfl rfl (by omega) (by omega)) ?_
 refine zp (o_eq rfl rfl) ?_
 refine za rfl (wl_nil ?_)
 refine ret1 rfl rfl ?_
 exact ⟨by rw [decide_eq_decide.2 ho]; rfl, hw⟩
set_option maxRecDepth 100000 in
theorem C_f3Same {a b : N32} (w : World) :
  CallsR Tryz.prog 178 [.agg (B8 a.1).toArray, .agg (B8 b.1).toArray] w fun v w' => v = .bool (decide (sameS a b)) ∧ Below w.heap.size w w' := by
 have ha := a.2
 have hb := b.2
 obtain ⟨x, hx⟩ : ∃ q, restS a = q := ⟨_, rfl⟩
 obtain ⟨y, hy⟩ : ∃ q, restS b = q := ⟨_, rfl⟩
 have hs : sameS a b ↔ x = y := by unfold sameS; rw [hx, hy]
 refine callsR Tryz.func178 rfl rfl (by kernel_rfl) rfl ?_
 have hw := Below.refl w.heap.size w
 refine zs ?_
 refine wl_boxg _ rfl (by rfl) ?_
 rintro g2 w2 f2 b2 i2 i2_1
 have s2 := b2.size
 replace hw := hw.trans (b2.mono hw.size)
 refine wl_boxg _ rfl (by rfl) ?_
 rintro g3 w3 f3 b3 i3 i3_1
 have s3 := b3.size
 replace hw := hw.trans (b3.mono hw.size)
 replace f2 := f2.u b3
 refine za rfl (wl_nil (rk_seq ?_))
 refine rk_drawo (id := 1) (none) [0, 1, 0, 6, 10, 31] [0, 1, 0, 7, 15, 31] 10 2 [0, 2, 1, 3, 4, 5] [(.r, 0), (.s, 2), (.c, 1), (.l, 3), (.p, 4), (.p, 5)] (by kernel_rfl) (by kernel_rfl) (by kernel_rfl) (by kernel_rfl) (by kernel_rfl) ?_
 dsimp only [inOrder, nthOp]
 replace hw := hw.drew
 replace f2 := f2.d
 replace f3 := f3.d
 refine wl_r (o_ldBa Tryz.isAgg108 Tryz.sizeOf108 rfl f2 ha) ?_
 refine wl_s (fun _ hk => (o_ldBa Tryz.isAgg108 Tryz.sizeOf108 rfl (f3.u (below_of_grown_none hk)) hb)) ?_
 refine wl_call rfl (C_f3Rest _ hx) ?_ (hq := .inr fun _ _ h => grown_of_below h.2 _)
 rintro v6 w6 ⟨rfl, b6⟩
 simp only [drew_size] at b6
 have s6 := b6.size
 simp only [drew_size] at s6
 replace hw := hw.trans (b6.mono hw.size)
 replace f3 := f3.u b6
 replace f2 := f2.u b6
 refine wl_call rfl (C_f3Rest _ hy) ?_
 rintro v8 w8 ⟨rfl, b8⟩
 have s8 := b8.size
 replace hw := hw.trans (b8.mono hw.size)
 replace f2 := f2.u b8
 replace f3 := f3.u b8
 refine zp (o_eqNum rfl rfl) ?_
 refine za rfl ?_
 refine wl_nild ?_
 refine ret1 rfl rfl ?_
 exact ⟨by rw [decide_eq_decide.2 hs], hw⟩
set_option maxRecDepth 100000 in
theorem C_f3Canon {a : N32} (w : World) :
  CallsR Tryz.prog 143 [.agg (B8 a.1).toArray] w fun v w' => v = .bool (decide (restS a = a)) ∧ Below w.heap.size w w' := by
 have ha := a.2
 obtain ⟨x, hx⟩ : ∃ q, restS a = q := ⟨_, rfl⟩
 refine callsR Tryz.func143 rfl rfl (by kernel_rfl) rfl ?_
 have hw := Below.refl w.heap.size w
 refine zs ?_
 refine wl_boxg _ rfl (by rfl) ?_
 rintro g1 w1 f1 b1 i1 i1_1
 have s1 := b1.size
 replace hw := hw.trans (b1.mono hw.size)
 refine za rfl (wl_nil (rk_seq ?_))
 refine rk_drawo (id := 1) (none) [0, 1, 0, 6, 15] [0, 1, 0, 7, 15] 2 2 [0, 2, 1, 3, 4] [(.r, 0), (.s, 2), (.c, 1), (.p, 3), (.p, 4)] (by kernel_rfl) (by kernel_rfl) (by kernel_rfl) (by kernel_rfl) (by kernel_rfl) ?_
 dsimp only [inOrder, nthOp]
 replace hw := hw.drew
 replace f1 := f1.d
 refine wl_r (o_ldBa Tryz.isAgg108 Tryz.sizeOf108 rfl f1 ha) ?_
 refine wl_s (fun _ hk => (o_ldBa Tryz.isAgg108 Tryz.sizeOf108 rfl (f1.u (below_of_grown_none hk)) ha)) ?_
 refine wl_call rfl (C_f3Rest _ hx) ?_ (hq := .inr fun _ _ h => grown_of_below h.2 _)
 rintro v4 w4 ⟨rfl, b4⟩
 simp only [drew_size] at b4
 have s4 := b4.size
 simp only [drew_size] at s4
 replace hw := hw.trans (b4.mono hw.size)
 replace f1 := f1.u b4
 refine zp (o_eqNum rfl rfl) ?_
 refine za rfl ?_
 refine wl_nild ?_
 refine ret1 rfl rfl ?_
 exact ⟨by rw [hx], hw⟩
set_option maxRecDepth 100000 in
theorem C_f3Neg {a r : N32} (w : World) (hr : negS a = r) :
  CallsR Tryz.prog 145 [.agg (B8 a.1).toArray] w fun v w' => v = .agg (B8 r.1).toArray ∧ Below w.heap.size w w' := by
 have ha := a.2
 have hc : subS n32z a = r := hr
 refine callsR Tryz.func145 rfl rfl (by kernel_rfl) rfl ?_
 have hw := Below.refl w.heap.size w
 refine zs ?_
 refine wl_boxg _ rfl (by rfl) ?_
 rintro g1 w1 f1 b1 i1 i1_1
 have s1 := b1.size
 replace hw := hw.trans (b1.mono hw.size)
 refine wl_allocB Tryz.underlying108 Tryz.zeroValue108 (by rfl) ?_
 rintro g2 w2 f2 b2 i2 i2_1
 have s2 := b2.size
 replace hw := hw.trans (b2.mono hw.size)
 replace f1 := f1.u b2
 refine wl_nil (zs ?_)
 refine zp (o_num0 rfl) ?_
 refine wl_r (o_ldBa Tryz.isAgg108 Tryz.sizeOf108 rfl f1 ha) ?_
 refine wl_call rfl (C_f3Sub _ hc) ?_
 rintro v5 w5 ⟨rfl, b5⟩
 have s5 := b5.size
 replace hw := hw.trans (b5.mono hw.size)
 replace f1 := f1.u b5
 replace f2 := f2.u b5
 refine wl_stBa Tryz.sizeOf108 rfl f2 rfl (by omega) (by rfl) ?_
 rintro w_1 f g e
 have s := g.size
 replace hw := hw.trans (below_of_grownBy g.g hw.size (by omega))
 replace f1 := f1.k g.g (ap_some (by omega))
 clear f2
 refine wl_nil ?_
 refine ret_cell rfl rfl Tryz.isAgg108 Tryz.sizeOf108 (by assumption) (by first | exact vI10 | exact b32 | exact ptC_len _ | exact frC_len _ | rfl) ?_
 exact ⟨rfl, hw⟩
end Go.Proofs.YtahkeoegbjopfaaGreat
namespace Go.Proofs.YtahkeoegbjopfaaGreat
set_option maxRecDepth 100000
open Go.RowKit
structure Item where
 k : Nat
 ps : List (Tag × Nat)
 ds : List Nat
 pre : List Nat
 φ : List Value → World → Nat → Nat → Prop
def Item.idx (it : Item) : List Nat := it.k :: it.ps.map Prod.snd
def bitsOf : List Nat → Nat
 | [] => 0
 | k :: r => Nat.lor (2 ^ k) (bitsOf r)
def Item.mask (it : Item) : Nat := bitsOf it.idx
def nthI : List Item → Nat → Option Item
 | [], _ => none
 | it :: _, 0 => some it
 | _ :: l, k + 1 => nthI l k
theorem nthI_mem : ∀ {l : List Item} {i : Nat} {it : Item}, nthI l i = some it → it ∈ l
 | _ :: _, 0, _, h => by injection h with h; subst h; simp
 | _ :: l, i + 1, _, h => List.mem_cons_of_mem _ (nthI_mem (l := l) (i := i) h)
theorem nthI_of_mem : ∀ {l : List Item} {it : Item}, it ∈ l → ∃ i, i < l.length ∧ nthI l i = some it
 | x :: l, it, h => by
  rcases List.mem_cons.1 h with h | h
  ·subst h; exact ⟨0, by simp, rfl⟩
  ·obtain ⟨i, h1, h2⟩ := nthI_of_mem h
   exact ⟨i + 1, by simpa using h1, h2⟩
theorem nthI_some : ∀ {l : List Item} {i : Nat}, i < l.length → ∃ it, nthI l i = some it
 | x :: _, 0, _ => ⟨x, rfl⟩
 | _ :: l, i + 1, h => nthI_some (l := l) (i := i) (by simpa using h)
theorem bitsOf_bit {j : Nat} : ∀ {l : List Nat}, (bitsOf l).testBit j = true ↔ j ∈ l
 | [] => by simp [bitsOf]
 | k :: r => by
  show (2 ^ k ||| bitsOf r).testBit j = true ↔ _
  rw [Nat.testBit_or, Bool.or_eq_true, bitsOf_bit (l := r), Nat.testBit_two_pow, List.mem_cons]
  constructor
  ·rintro (h | h)
   ·exact .inl (of_decide_eq_true h).symm
   ·exact .inr h
  ·rintro (h | h)
   ·exact .inl (by simp [h])
   ·exact .inr h
def apartAll : List (Nat × Nat) → Nat → Nat → Prop
 | [], _, _ => True
 | p :: r, lo, hi => (p.2 ≤ lo ∨ hi ≤ p.1) ∧ apartAll r lo hi
def given (its : List Item) (w : World) (B : Nat) : List Nat → List (Nat × Nat) → Fr → (Fr → Prop) → Prop
 | [], _, fr, K => K fr
 | p :: r, seen, fr, K => match nthI its p with
  | none => False
  | some it => ∀ vs lo hi, it.φ vs w lo hi → B ≤ lo → lo ≤ hi → hi ≤ w.heap.size → apartAll seen lo hi → given its w B r ((lo, hi) :: seen) (it.ds.zip vs ++ fr) K
def stables : List Item → Prop
 | [] => True
 | it :: r => (∀ vs w w' lo hi, it.φ vs w lo hi → Below w.heap.size w w' → it.φ vs w' lo hi) ∧ stables r
theorem stables_spec : ∀ {l : List Item}, stables l → ∀ it ∈ l, ∀ vs w w' lo hi, it.φ vs w lo hi → Below w.heap.size w w' → it.φ vs w' lo hi
 | _ :: _, h, it, hi => by
  rcases List.mem_cons.1 hi with e | e
  ·subst e; exact h.1
  ·exact stables_spec h.2 it e

/-! What is checked. -/
def meetN (a b : Nat) : Bool := !Nat.beq (Nat.land a b) 0
theorem meetN_spec {a b : Nat} (h : meetN a b = true) : ∃ i, a.testBit i = true ∧ b.testBit i = true := by
 unfold meetN at h
 refine Classical.byContradiction fun hn => ?_
 have e : Nat.land a b = 0 := Nat.eq_of_testBit_eq fun i => by
  show (a &&& b).testBit i = _
  rw [Nat.testBit_and, Nat.zero_testBit]
  cases h1 : a.testBit i with
  | false => rfl
  | true => cases h2 : b.testBit i with
   | false => rfl
   | true => exact absurd ⟨i, h1, h2⟩ hn
 rw [e] at h
 simp at h
def preMask (its : List Item) : List Nat → Nat
 | [] => 0
 | p :: r => Nat.lor (match nthI its p with | some it => it.mask | none => 0) (preMask its r)
theorem preMask_bit {its : List Item} {i : Nat} : ∀ {ps : List Nat}, (preMask its ps).testBit i = true → ∃ p ∈ ps, ∃ it, nthI its p = some it ∧ i ∈ it.idx
 | p :: r, h => by
  have h' : ((match nthI its p with | some it => it.mask | none => 0) ||| preMask its r).testBit i = true := h
  rw [Nat.testBit_or, Bool.or_eq_true] at h'
  rcases h' with h' | h'
  ·cases hp : nthI its p with
   | none => rw [hp] at h'; simp at h'
   | some it =>
    rw [hp] at h'
    exact ⟨p, by simp, it, hp, bitsOf_bit.1 h'⟩
  ·obtain ⟨q, h1, it, h2, h3⟩ := preMask_bit h'
   exact ⟨q, by simp [h1], it, h2, h3⟩
 | [], h => by simp [preMask] at h
def chkP (ops : Array Oper) (l : List Oper) (D A : List Nat) (L C : Nat) : List (Tag × Nat) → Nat → Bool
 | [], _ => true
 | (.p, k) :: ts, m => (!Nat.testBit L k && (rdyK D m k && freeAt ops l D m k)) && chkP ops l D A L C ts (m ||| 2 ^ k)
 | (.r, k) :: ts, m => (!Nat.testBit L k && (rdyK D m k && (freeAt ops l D m k && crossK L k (A.getD k 0) A 0))) && chkP ops l D A L C ts (m ||| 2 ^ k)
 | (.s, k) :: ts, m => (!Nat.testBit L k && (rdyK D m k && (freeAt ops l D m k && crossK (L ^^^ (L &&& C)) k (A.getD k 0) A 0))) && chkP ops l D A L C ts (m ||| 2 ^ k)
 | _ :: _, _ => false
theorem freeK_mono {ops : Array Oper} {oi : Oper} {m m' k : Nat} (hm : ∀ i, m.testBit i = true → m'.testBit i = true) : ∀ (l : List Oper) (D : List Nat) (j : Nat), freeK ops oi m k l D j = true → freeK ops oi m' k l D j = true
 | [], _, _, _ => by simp [freeK]
 | _ :: _, [], _, _ => by simp [freeK]
 | o :: l, d :: D, j, h => by
  simp only [freeK, Bool.and_eq_true, Bool.or_eq_true] at h ⊢
  refine ⟨?_, freeK_mono hm l D (j + 1) h.2⟩
  rcases h.1 with h | h | h
  ·exact .inl h
  ·exact .inr (.inl (hm _ h))
  ·exact .inr (.inr h)
theorem freeAt_mono {ops : Array Oper} {l : List Oper} {D : List Nat} {m m' k : Nat} (hm : ∀ i, m.testBit i = true → m'.testBit i = true) (h : freeAt ops l D m k = true) : freeAt ops l D m' k = true := by
 unfold freeAt at h ⊢
 split at h
 ·exact freeK_mono hm _ _ _ h
 ·cases h
theorem rdyK_mono {D : List Nat} {m m' k : Nat} (hm : ∀ i, m.testBit i = true → m'.testBit i = true) (hk : m'.testBit k = false) (h : rdyK D m k = true) : rdyK D m' k = true := by
 unfold rdyK at h ⊢
 split at h
 ·simp only [Bool.and_eq_true, Bool.not_eq_true'] at h ⊢
  exact ⟨hk, land_eq.2 fun i hi => hm i (land_eq.1 h.2 i hi)⟩
 ·cases h
theorem bit_lor {m k j : Nat} : (m ||| 2 ^ k).testBit j = true ↔ m.testBit j = true ∨ k = j := by
 rw [Nat.testBit_or, Bool.or_eq_true, Nat.testBit_two_pow]; simp
def maskAfter : List (Tag × Nat) → Nat → Nat
 | [], m => m
 | p :: ts, m => maskAfter ts (m ||| 2 ^ p.2)
theorem maskAfter_bit {j : Nat} : ∀ {ts : List (Tag × Nat)} {m : Nat}, (maskAfter ts m).testBit j = true ↔ m.testBit j = true ∨ j ∈ ts.map Prod.snd
 | [], m => by simp [maskAfter]
 | p :: ts, m => by
  rw [maskAfter, maskAfter_bit (ts := ts), bit_lor, List.map_cons, List.mem_cons]
  constructor
  ·rintro ((h | h) | h)
   ·exact .inl h
   ·exact .inr (.inl h.symm)
   ·exact .inr (.inr h)
  ·rintro (h | h | h)
   ·exact .inl (.inl h)
   ·exact .inl (.inr h.symm)
   ·exact .inr h
theorem chk_of_chkP {ops : Array Oper} {l : List Oper} {D A : List Nat} {L C n T : Nat} : ∀ (ts : List (Tag × Nat)) (m m' : Nat), chkP ops l D A L C ts m = true → (∀ i, m.testBit i = true → m'.testBit i = true) → (∀ i, m'.testBit i = true → T.testBit i = true ∨ m.testBit i = true) → (∀ p ∈ ts, T.testBit p.2 = false) →
  chk ops l D A L C (ts ++ [(.f (maskAfter ts m') L C, n)]) m' = true
 | [], m, m', _, _, _, _ => by simp [chk, maskAfter]
 | (t, k) :: ts, m, m', h, hm, hm2, hT => by
  have hk0 : rdyK D m k = true → m'.testBit k = false := fun hr => by
   have h0 : m.testBit k = false := by
    unfold rdyK at hr
    split at hr
    ·simp only [Bool.and_eq_true, Bool.not_eq_true'] at hr; exact hr.1
    ·cases hr
   cases hb : m'.testBit k with
   | false => rfl
   | true =>
    rcases hm2 k hb with h1 | h1
    ·rw [hT (t, k) (by simp)] at h1; cases h1
    ·rw [h0] at h1; cases h1
  have rest : chkP ops l D A L C ts (m ||| 2 ^ k) = true → chk ops l D A L C (ts ++ [(.f (maskAfter ts (m' ||| 2 ^ k)) L C, n)]) (m' ||| 2 ^ k) = true := fun h2 =>
   chk_of_chkP ts _ _ h2 (fun i hi => by rw [bit_lor] at hi ⊢; exact hi.imp (hm i) id) (fun i hi => by
    rw [bit_lor] at hi ⊢
    rcases hi with hi | hi
    ·rcases hm2 i hi with h1 | h1
     ·exact .inl h1
     ·exact .inr (.inl h1)
    ·exact .inr (.inr hi)) (fun p hp => hT p (by simp [hp]))
  cases t with
  | p =>
   simp only [chkP, Bool.and_eq_true] at h
   obtain ⟨⟨h1, h2, h3⟩, h4⟩ := h
   simp only [List.cons_append, chk, maskAfter, Bool.and_eq_true]
   exact ⟨⟨h1, rdyK_mono hm (hk0 h2) h2, freeAt_mono hm h3⟩, rest h4⟩
  | r =>
   simp only [chkP, Bool.and_eq_true] at h
   obtain ⟨⟨h1, h2, h3, h5⟩, h4⟩ := h
   simp only [List.cons_append, chk, maskAfter, Bool.and_eq_true]
   exact ⟨⟨h1, rdyK_mono hm (hk0 h2) h2, freeAt_mono hm h3, h5⟩, rest h4⟩
  | s =>
   simp only [chkP, Bool.and_eq_true] at h
   obtain ⟨⟨h1, h2, h3, h5⟩, h4⟩ := h
   simp only [List.cons_append, chk, maskAfter, Bool.and_eq_true]
   exact ⟨⟨h1, rdyK_mono hm (hk0 h2) h2, freeAt_mono hm h3, h5⟩, rest h4⟩
  | l => simp [chkP] at h
  | c => simp [chkP] at h
  | f => simp [chkP] at h
  | g => simp [chkP] at h
theorem opsOf_ps {ops : Array Oper} {l : List Oper} {D A : List Nat} {L C n T : Nat} : ∀ (ts : List (Tag × Nat)) (m : Nat), chkP ops l D A L C ts m = true → opsOf ops (ts ++ [(.f T L C, n)]) = ts.map (fun p => ops[p.2]?) ∧ extra (ts ++ [(.f T L C, n)]) = n
 | [], _, _ => ⟨rfl, rfl⟩
 | (t, k) :: ts, m, h => by
  have ih := fun m h => opsOf_ps (ops := ops) (l := l) (D := D) (A := A) (L := L) (C := C) (n := n) (T := T) ts m h
  cases t with
  | p => simp only [chkP, Bool.and_eq_true] at h; have := ih _ h.2; exact ⟨by simp [opsOf, this.1], by simp [extra, this.2]⟩
  | r => simp only [chkP, Bool.and_eq_true] at h; have := ih _ h.2; exact ⟨by simp [opsOf, this.1], by simp [extra, this.2]⟩
  | s => simp only [chkP, Bool.and_eq_true] at h; have := ih _ h.2; exact ⟨by simp [opsOf, this.1], by simp [extra, this.2]⟩
  | l => simp [chkP] at h
  | c => simp [chkP] at h
  | f => simp [chkP] at h
  | g => simp [chkP] at h
def incrN : List Nat → Bool
 | [] => true
 | a :: r => r.all (fun b => Nat.blt a b) && incrN r
theorem incrN_spec : ∀ {l : List Nat}, incrN l = true → l.Pairwise (· < ·)
 | [], _ => .nil
 | a :: r, h => by
  simp only [incrN, Bool.and_eq_true, List.all_eq_true] at h
  exact List.pairwise_cons.2 ⟨fun b hb => by have := h.1 b hb; simpa using this, incrN_spec h.2⟩
def chkI (ops : Array Oper) (l : List Oper) (its : List Item) (D A : List Nat) (L C m : Nat) : List Item → Nat → Bool
 | [], _ => true
 | it :: r, i => (Nat.testBit L it.k && (it.pre.all (fun p => Nat.blt p i && meetN (A.getD it.k 0) (preMask its [p])) && (incrN it.pre && (rdyK D (m ||| preMask its it.pre) it.k && (it.idx.all (fun j => Nat.blt j l.length) && chkP ops l D A L C it.ps (m ||| preMask its it.pre ||| 2 ^ it.k)))))) && chkI ops l its D A L C m r (i + 1)
def disjN : List Item → Nat → Bool
 | [], _ => true
 | it :: r, m => !meetN it.mask m && disjN r (Nat.lor m it.mask)
def disjD : List Item → List Nat → Bool
 | [], _ => true
 | it :: r, ds => it.ds.all (fun d => !inN d ds) && disjD r (it.ds ++ ds)
def chkJ (its : List Item) (D A : List Nat) (m : Nat) : List Nat → Nat → Bool
 | [], _ => true
 | d :: r, j => (Nat.testBit m j || (its.any (fun it => Nat.beq it.k j || (inN j (it.ps.map Prod.snd) && meetN d it.mask)) || its.all (fun it => meetN (A.getD j 0) it.mask && !Nat.testBit it.mask j))) && chkJ its D A m r (j + 1)
def fuelOf (T : Nat) : List Item → Nat
 | [] => 0
 | it :: r => (bif Nat.testBit T it.k then 0 else 1 + it.ps.length) + fuelOf T r
def allMask (m : Nat) : List Item → Nat
 | [] => m
 | it :: r => allMask (Nat.lor m it.mask) r
def chkC (ops : List Oper) (its : List Item) (all : List Nat) (D A : List Nat) (L C m n : Nat) (fr : Fr) (ordR : List Nat) (tsR : List (Tag × Nat)) : Bool :=
 chkI ops.toArray ops its D A L C m its 0 && (disjN its m && (disjD its (fr.map Prod.fst) && (chkJ its D A m D 0 && (incrN all && (all.all (fun p => Nat.blt p its.length) &&
  (Nat.beq n (((inOrder ops ordR).length + extra tsR) + fuelOf m its) && chk ops.toArray ops D A L C tsR (allMask m its)))))))

/-! Frames. -/
theorem Rep.append {N : Nat} {a : Act} {f1 f2 : Fr} (h1 : Rep N a f1) (h2 : Rep N a f2) : Rep N a (f1 ++ f2) := ⟨h1.size, h1.defers, fun t v h => by
 rw [Fr.get_append] at h
 cases hc : f1.get t with
 | some u => rw [hc] at h; exact h1.get t v (hc.trans h)
 | none => rw [hc] at h; exact h2.get t v h⟩
theorem dump_ex {N : Nat} {a : Act} {fr : Fr} (h : Rep N a fr) : ∃ fo : Fr, Rep N a fo ∧ ∀ t v, a.tmps[t]? = some v → fo.get t = some v := by
 have key : ∀ (k : Nat), ∃ fo : Fr, (∀ t v, fo.get t = some v → a.tmps[t]? = some v) ∧ ∀ t v, t < k → a.tmps[t]? = some v → fo.get t = some v := by
  intro k
  induction k with
  | zero => exact ⟨[], (fun t v h => by cases h), fun t v h => absurd h (Nat.not_lt_zero _)⟩
  | succ k ih =>
   obtain ⟨fo, h1, h2⟩ := ih
   cases hk : a.tmps[k]? with
   | none =>
    refine ⟨fo, h1, fun t v ht hv => ?_⟩
    rcases Nat.lt_or_ge t k with h | h
    ·exact h2 t v h hv
    ·obtain rfl : t = k := by omega
     rw [hk] at hv; cases hv
   | some u =>
    refine ⟨(k, u) :: fo, fun t v hv => ?_, fun t v ht hv => ?_⟩
    ·rw [Fr.get_cons] at hv
     by_cases e : k = t
     ·subst e; rw [if_pos rfl] at hv; rw [hk]; exact hv
     ·rw [if_neg e] at hv; exact h1 t v hv
    ·rw [Fr.get_cons]
     by_cases e : k = t
     ·subst e; rw [if_pos rfl, ← hk]; exact hv
     ·rw [if_neg e]; exact h2 t v (by omega) hv
 obtain ⟨fo, h1, h2⟩ := key a.tmps.size
 exact ⟨fo, ⟨h.size, h.defers, h1⟩, fun t v hv => h2 t v (Array.getElem?_eq_some_iff.1 hv).1 hv⟩
theorem zip_get {t : Nat} {v : Value} : ∀ {ds : List Nat} {vs : List Value}, Fr.get (ds.zip vs) t = some v → t ∈ ds
 | [], _, h => by simp [Fr.get] at h
 | _ :: _, [], h => by simp [Fr.get] at h
 | d :: ds, u :: vs, h => by
  rw [List.zip_cons_cons, Fr.get_cons] at h
  by_cases e : d = t
  ·subst e; simp
  ·rw [if_neg e] at h; exact List.mem_cons_of_mem _ (zip_get h)
section
variable {its : List Item} {w : World} {B N : Nat} {a : Act} {lo hi : Nat → Nat} {vv : Nat → List Value}
theorem apartAll_of {l h : Nat} : ∀ {seen : List (Nat × Nat)}, (∀ q ∈ seen, q.2 ≤ l ∨ h ≤ q.1) → apartAll seen l h
 | [], _ => trivial
 | q :: r, hq => ⟨hq q (by simp), apartAll_of (fun q' h' => hq q' (by simp [h']))⟩
theorem given_elim : ∀ (ps : List Nat) (seen : List (Nat × Nat)) (fr : Fr) (K : Fr → Prop), Rep N a fr →
  (∀ p ∈ ps, ∃ it, nthI its p = some it ∧ Rep N a (it.ds.zip (vv p)) ∧ it.φ (vv p) w (lo p) (hi p) ∧ B ≤ lo p ∧ lo p ≤ hi p ∧ hi p ≤ w.heap.size) →
  ps.Pairwise (fun p q => hi p ≤ lo q ∨ hi q ≤ lo p) → (∀ q ∈ seen, ∀ p ∈ ps, q.2 ≤ lo p ∨ hi p ≤ q.1) → given its w B ps seen fr K → ∃ fr', Rep N a fr' ∧ (∀ t, fr'.get t = none → fr.get t = none) ∧ K fr'
 | [], _, fr, K, hr, _, _, _, h => ⟨fr, hr, fun _ h => h, h⟩
 | p :: r, seen, fr, K, hr, hp, hpw, hs, h => by
  obtain ⟨it, h1, h2, h3, h4, h5, h6⟩ := hp p (by simp)
  simp only [given, h1] at h
  have h7 := h (vv p) (lo p) (hi p) h3 h4 h5 h6 (apartAll_of (fun q hq => hs q hq p (by simp)))
  obtain ⟨hpw1, hpw2⟩ := List.pairwise_cons.1 hpw
  obtain ⟨fr', k1, k2, k3⟩ := given_elim r ((lo p, hi p) :: seen) _ K (h2.append hr) (fun q hq => hp q (by simp [hq])) hpw2 (fun q hq p' hp' => by
   rcases List.mem_cons.1 hq with e | e
   ·subst e; exact hpw1 p' hp'
   ·exact hs q e p' (by simp [hp'])) h7
  refine ⟨fr', k1, fun t ht => ?_, k3⟩
  have := k2 t ht
  rw [Fr.get_append] at this
  cases hc : Fr.get (it.ds.zip (vv p)) t with
  | some u => rw [hc] at this; cases this
  | none => rw [hc] at this; exact this
end
theorem allMask_bit {j : Nat} : ∀ {its : List Item} {m : Nat}, (allMask m its).testBit j = true ↔ m.testBit j = true ∨ ∃ it ∈ its, j ∈ it.idx
 | [], m => by simp [allMask]
 | it :: r, m => by
  rw [allMask, allMask_bit (its := r), show (Nat.lor m it.mask).testBit j = (m.testBit j || it.mask.testBit j) from Nat.testBit_or .., Bool.or_eq_true, show it.mask.testBit j = true ↔ j ∈ it.idx from bitsOf_bit]
  constructor
  ·rintro ((h | h) | ⟨x, h1, h2⟩)
   ·exact .inl h
   ·exact .inr ⟨it, by simp, h⟩
   ·exact .inr ⟨x, by simp [h1], h2⟩
  ·rintro (h | ⟨x, h1, h2⟩)
   ·exact .inl (.inl h)
   ·rcases List.mem_cons.1 h1 with e | e
    ·subst e; exact .inl (.inr h2)
    ·exact .inr ⟨x, e, h2⟩
theorem disjN_spec : ∀ {its : List Item} {m : Nat}, disjN its m = true → (∀ it ∈ its, ∀ j ∈ it.idx, m.testBit j = false) ∧ ∀ i i' it it', nthI its i = some it → nthI its i' = some it' → i ≠ i' → ∀ j ∈ it.idx, j ∉ it'.idx
 | [], m, _ => ⟨fun _ h => absurd h (by simp), fun i _ _ _ h => by cases i <;> cases h⟩
 | x :: r, m, h => by
  simp only [disjN, Bool.and_eq_true, Bool.not_eq_true'] at h
  obtain ⟨h1, h2⟩ := h
  obtain ⟨k1, k2⟩ := disjN_spec h2
  have kx : ∀ j ∈ x.idx, m.testBit j = false := fun j hj => by
   cases hb : m.testBit j with
   | false => rfl
   | true =>
    have : meetN x.mask m = true := by
     unfold meetN
     simp only [Bool.not_eq_true']
     cases hz : Nat.beq (Nat.land x.mask m) 0 with
     | false => rfl
     | true =>
      have e := Nat.eq_of_beq_eq_true hz
      have : (x.mask &&& m).testBit j = true := by rw [Nat.testBit_and, hb, show x.mask.testBit j = true from bitsOf_bit.2 hj]; rfl
      rw [show x.mask &&& m = 0 from e] at this
      simp at this
    rw [h1] at this; cases this
  have kr : ∀ it ∈ r, ∀ j ∈ it.idx, m.testBit j = false ∧ j ∉ x.idx := fun it hit j hj => by
   have := k1 it hit j hj
   rw [show (Nat.lor m x.mask).testBit j = (m.testBit j || x.mask.testBit j) from Nat.testBit_or .., Bool.or_eq_false_iff] at this
   refine ⟨this.1, fun hx => ?_⟩
   have h3 : x.mask.testBit j = true := bitsOf_bit.2 hx
   rw [this.2] at h3; cases h3
  refine ⟨fun it hit j hj => ?_, fun i i' it it' hi hi' hne j hj hj' => ?_⟩
  ·rcases List.mem_cons.1 hit with e | e
   ·subst e; exact kx j hj
   ·exact (kr it e j hj).1
  ·cases i with
   | zero =>
    injection hi with hi; subst hi
    cases i' with
    | zero => exact hne rfl
    | succ i' => exact (kr it' (nthI_mem (l := r) (i := i') hi') j hj').2 hj
   | succ i =>
    cases i' with
    | zero => injection hi' with hi'; subst hi'; exact (kr it (nthI_mem (l := r) (i := i) hi) j hj).2 hj'
    | succ i' => exact k2 i i' it it' hi hi' (by omega) j hj hj'
theorem inN_iff {t : Nat} : ∀ {l : List Nat}, inN t l = true ↔ t ∈ l
 | [] => by simp [inN]
 | a :: l => by
  rw [List.mem_cons, ← inN_iff (l := l), inN]
  cases hb : Nat.beq a t with
  | true => simp [(Nat.eq_of_beq_eq_true hb).symm]
  | false => simp [show t ≠ a from fun e => by subst e; simp at hb]
theorem disjD_spec : ∀ {its : List Item} {ds : List Nat}, disjD its ds = true → (∀ it ∈ its, ∀ d ∈ it.ds, d ∉ ds) ∧ ∀ i i' it it', nthI its i = some it → nthI its i' = some it' → i ≠ i' → ∀ d ∈ it.ds, d ∉ it'.ds
 | [], _, _ => ⟨fun _ h => absurd h (by simp), fun i _ _ _ h => by cases i <;> cases h⟩
 | x :: r, ds, h => by
  simp only [disjD, Bool.and_eq_true, List.all_eq_true, Bool.not_eq_true'] at h
  obtain ⟨h1, h2⟩ := h
  obtain ⟨k1, k2⟩ := disjD_spec h2
  have kx : ∀ d ∈ x.ds, d ∉ ds := fun d hd hm => by have := h1 d hd; rw [inN_iff.2 hm] at this; cases this
  have kr : ∀ it ∈ r, ∀ d ∈ it.ds, d ∉ x.ds ∧ d ∉ ds := fun it hit d hd => by
   have := k1 it hit d hd
   rw [List.mem_append, not_or] at this
   exact this
  refine ⟨fun it hit d hd => ?_, fun i i' it it' hi hi' hne d hd hd' => ?_⟩
  ·rcases List.mem_cons.1 hit with e | e
   ·subst e; exact kx d hd
   ·exact (kr it e d hd).2
  ·cases i with
   | zero =>
    injection hi with hi; subst hi
    cases i' with
    | zero => exact hne rfl
    | succ i' => exact (kr it' (nthI_mem (l := r) (i := i') hi') d hd').1 hd
   | succ i =>
    cases i' with
    | zero => injection hi' with hi'; subst hi'; exact (kr it (nthI_mem (l := r) (i := i) hi) d hd).1 hd'
    | succ i' => exact k2 i i' it it' hi hi' (by omega) d hd hd'
theorem nthOp_eq : ∀ (l : List Oper) (k : Nat), nthOp l k = l[k]?
 | [], _ => rfl
 | _ :: _, 0 => rfl
 | _ :: l, k + 1 => by rw [nthOp, nthOp_eq l k]; simp
theorem inOrder_map {ops : List Oper} : ∀ {ks : List Nat}, (∀ j ∈ ks, j < ops.length) → (inOrder ops ks).map some = ks.map (fun k => ops.toArray[k]?)
 | [], _ => rfl
 | k :: ks, h => by
  have hk : k < ops.length := h k (by simp)
  rw [inOrder, nthOp_eq, List.getElem?_eq_getElem hk]
  simp only [List.map_cons]
  rw [inOrder_map (fun j hj => h j (by simp [hj]))]
  simp [hk]
theorem fuel_step {T T2 : Nat} : ∀ {its : List Item} {i : Nat} {it : Item}, nthI its i = some it → T.testBit it.k = false → T2.testBit it.k = true → (∀ i' it', nthI its i' = some it' → i' ≠ i → T2.testBit it'.k = T.testBit it'.k) → fuelOf T its = fuelOf T2 its + (1 + it.ps.length)
 | x :: r, 0, it, h, h1, h2, h3 => by
  injection h with h; subst h
  have hr : ∀ (r : List Item), (∀ y ∈ r, T2.testBit y.k = T.testBit y.k) → fuelOf T r = fuelOf T2 r := fun r hy => by
   induction r with
   | nil => rfl
   | cons y r ih => rw [fuelOf, fuelOf, hy y (by simp), ih (fun z hz => hy z (by simp [hz]))]
  rw [fuelOf, fuelOf, h1, h2, hr r (fun y hy => by obtain ⟨j, _, hj⟩ := nthI_of_mem hy; exact h3 (j + 1) y hj (by omega))]
  simp only [cond_true, cond_false]; omega
 | x :: r, i + 1, it, h, h1, h2, h3 => by
  have := fuel_step (its := r) (i := i) h h1 h2 (fun i' it' hi' hne => h3 (i' + 1) it' hi' (by omega))
  rw [fuelOf, fuelOf, this, h3 0 x rfl (by omega)]; omega
theorem fuel_zero {T : Nat} : ∀ {its : List Item}, (∀ it ∈ its, T.testBit it.k = true) → fuelOf T its = 0
 | [], _ => rfl
 | x :: r, h => by rw [fuelOf, h x (by simp), fuel_zero (fun y hy => h y (by simp [hy]))]; rfl
theorem chkI_spec {ops : Array Oper} {l : List Oper} {its : List Item} {D A : List Nat} {L C m : Nat} : ∀ {r : List Item} {i0 : Nat}, chkI ops l its D A L C m r i0 = true → ∀ i it, nthI r i = some it →
  L.testBit it.k = true ∧ (∀ p ∈ it.pre, p < i0 + i ∧ ∃ j, (A.getD it.k 0).testBit j = true ∧ ∃ x, nthI its p = some x ∧ j ∈ x.idx) ∧ it.pre.Pairwise (· < ·) ∧ rdyK D (m ||| preMask its it.pre) it.k = true ∧ (∀ j ∈ it.idx, j < l.length) ∧ chkP ops l D A L C it.ps (m ||| preMask its it.pre ||| 2 ^ it.k) = true
 | x :: r, i0, h, i, it, hi => by
  simp only [chkI, Bool.and_eq_true, List.all_eq_true] at h
  obtain ⟨⟨h1, h2, h3, h4, h5, h6⟩, h7⟩ := h
  cases i with
  | zero =>
   injection hi with hi; subst hi
   refine ⟨h1, fun p hp => ?_, incrN_spec h3, h4, fun j hj => by have := h5 j hj; simpa using this, h6⟩
   obtain ⟨h8, h9⟩ := h2 p hp
   obtain ⟨j, k1, k2⟩ := meetN_spec h9
   obtain ⟨q, hq, y, hy, hj⟩ := preMask_bit k2
   rw [List.mem_singleton] at hq; subst hq
   exact ⟨by simpa using h8, j, k1, y, hy, hj⟩
  | succ i =>
   have := chkI_spec h7 i it hi
   refine ⟨this.1, fun p hp => ?_, this.2.2⟩
   obtain ⟨k1, k2⟩ := this.2.1 p hp
   exact ⟨by omega, k2⟩
theorem chkJ_spec {its : List Item} {D A : List Nat} {m : Nat} : ∀ {r : List Nat} {j0 : Nat}, chkJ its D A m r j0 = true → ∀ j d, r[j]? = some d →
  m.testBit (j0 + j) = true ∨ (∃ it ∈ its, it.k = j0 + j ∨ (j0 + j ∈ it.ps.map Prod.snd ∧ ∃ b, d.testBit b = true ∧ b ∈ it.idx)) ∨ ∀ it ∈ its, (∃ b, (A.getD (j0 + j) 0).testBit b = true ∧ b ∈ it.idx) ∧ j0 + j ∉ it.idx
 | [], _, _, j, d, hd => by simp at hd
 | d0 :: r, j0, h, j, d, hd => by
  simp only [chkJ, Bool.and_eq_true, Bool.or_eq_true, List.any_eq_true, List.all_eq_true] at h
  cases j with
  | zero =>
   simp only [List.getElem?_cons_zero, Option.some.injEq] at hd
   subst hd
   rw [Nat.add_zero]
   rcases h.1 with h1 | ⟨it, h1, h2⟩ | h1
   ·exact .inl h1
   ·refine .inr (.inl ⟨it, h1, ?_⟩)
    rcases h2 with h2 | ⟨h2, h3⟩
    ·exact .inl (Nat.eq_of_beq_eq_true h2)
    ·obtain ⟨b, k1, k2⟩ := meetN_spec h3
     exact .inr ⟨inN_iff.1 h2, b, k1, bitsOf_bit.1 k2⟩
   ·refine .inr (.inr fun it hit => ?_)
    have h2 := h1 it hit
    simp only [Bool.and_eq_true, Bool.not_eq_true'] at h2
    obtain ⟨b, k1, k2⟩ := meetN_spec h2.1
    refine ⟨⟨b, k1, bitsOf_bit.1 k2⟩, fun hm => ?_⟩
    rw [show it.mask.testBit j0 = true from bitsOf_bit.2 hm] at h2
    cases h2.2
  | succ j =>
   have := chkJ_spec h.2 j d (by simpa using hd)
   rw [show j0 + (j + 1) = j0 + 1 + j by omega]
   exact this
structure ConcSt (its : List Item) (N : Nat) (fr : Fr) (w0 : World) (m T : Nat) (a : Act) (w : World) (lo hi : Nat → Nat) (vv : Nat → List Value) : Prop where
 rep : Rep N a fr
 bel : Below w0.heap.size w0 w
 low : ∀ j, m.testBit j = true → T.testBit j = true
 up : ∀ j, T.testBit j = true → m.testBit j = true ∨ ∃ it ∈ its, j ∈ it.idx
 whole : ∀ it ∈ its, ∀ j ∈ it.idx, T.testBit j = T.testBit it.k
 f : ∀ i it, nthI its i = some it → T.testBit it.k = true → Rep N a (it.ds.zip (vv i)) ∧ it.φ (vv i) w (lo i) (hi i) ∧ w0.heap.size ≤ lo i ∧ lo i ≤ hi i ∧ hi i ≤ w.heap.size
 ap : ∀ i j it it', nthI its i = some it → nthI its j = some it' → T.testBit it.k = true → T.testBit it'.k = true → i ≠ j → hi i ≤ lo j ∨ hi j ≤ lo i
section
variable {P : Program} {fn : Func} {F : Ending → World → Prop} {N : Nat} {ks : List K} {ops : List Oper} {fr : Fr} {w : World} {row : Rw} {L C : Nat}
def stepOf (P : Program) (fn : Func) (F : Ending → World → Prop) (N : Nat) (ks : List K) (ops : List Oper) (fr : Fr) (w : World) (row : Rw) (L C : Nat) (its : List Item) (it : Item) : Prop :=
 ∀ (w' : World), Below w.heap.size w w' → ∀ (fo : Fr) (T T2 n2 : Nat), given its w' w.heap.size it.pre [] (fr ++ fo) fun fr' =>
  (∀ (vs : List Value) (w'' : World), it.φ vs w'' w'.heap.size w''.heap.size → Below w'.heap.size w' w'' → WL P fn F N ks ops.toArray (some (row, [(.f T2 L C, n2)])) [] (it.ds.zip vs ++ fr') w'') →
  WL P fn F N ks ops.toArray (some (row, (.g T L C, it.k) :: (it.ps ++ [(.f T2 L C, n2)]))) (inOrder ops it.idx) fr' w'
def stepsOf (P : Program) (fn : Func) (F : Ending → World → Prop) (N : Nat) (ks : List K) (ops : List Oper) (fr : Fr) (w : World) (row : Rw) (L C : Nat) (its : List Item) : List Item → Prop
 | [] => True
 | it :: r => stepOf P fn F N ks ops fr w row L C its it ∧ stepsOf P fn F N ks ops fr w row L C its r
theorem stepsOf_spec {its : List Item} : ∀ {r : List Item}, stepsOf P fn F N ks ops fr w row L C its r → ∀ it ∈ r, stepOf P fn F N ks ops fr w row L C its it
 | _ :: _, h, it, hi => by
  rcases List.mem_cons.1 hi with e | e
  ·subst e; exact h.1
  ·exact stepsOf_spec h.2 it e
theorem wl_conc {m n : Nat} (its : List Item) (all D A ordR : List Nat) (tsR : List (Tag × Nat)) (hD : ops.map (dmask .any) = D) (hA : ancs .any ops [] = A) (hc : chkC ops its all D A L C m n fr ordR tsR = true)
  (hlR : (inOrder ops ordR).map some = opsOf ops.toArray tsR) (hst : stables its) (hstep : stepsOf P fn F N ks ops fr w row L C its its)
  (hend : ∀ w', Below w.heap.size w w' → given its w' w.heap.size all [] fr fun fr' => WL P fn F N ks ops.toArray (some (row, tsR)) (inOrder ops ordR) fr' w') :
  WL P fn F N ks ops.toArray (some (row, [(.f m L C, n)])) [] fr w := by
 simp only [chkC, Bool.and_eq_true, List.all_eq_true] at hc
 obtain ⟨c1, c2, c3, c4, c5, c6, c8, c9⟩ := hc
 have hI := fun i it hi => chkI_spec c1 i it hi
 have hJ := fun j d hd => chkJ_spec c4 j d hd
 obtain ⟨d1, d2⟩ := disjN_spec c2
 obtain ⟨e1, e2⟩ := disjD_spec c3
 have hstab := stables_spec hst
 have hsteps := stepsOf_spec hstep
 obtain ⟨base, hbase⟩ : ∃ b, (inOrder ops ordR).length + extra tsR = b := ⟨_, rfl⟩
 have hn := Nat.eq_of_beq_eq_true c8
 rw [hbase] at hn
 subst hn
 have hfr : ∀ it ∈ its, ∀ d ∈ it.ds, fr.get d = none := fun it hit d hd => by
  refine (Fr.get_none_iff fr d).2 ?_
  cases hb : inN d (fr.map Prod.fst) with
  | false => rfl
  | true => exact absurd (inN_iff.1 hb) (e1 it hit d hd)
 have main : ∀ (f T : Nat) (a : Act) (w' : World) (lo hi : Nat → Nat) (vv : Nat → List Value), f = fuelOf T its → ConcSt its N fr w m T a w' lo hi vv → Left P (kpost P fn F ks) ops.toArray (some (row, [(.f T L C, base + f)])) [] a w' := by
  intro f
  induction f using Nat.strongRecOn with
  | _ f ih =>
   intro T a w' lo hi vv hf hS
   intro D' A' L' C' listed m' hm _ hchk
   unfold chk at hchk
   simp only [Bool.and_eq_true] at hchk
   obtain ⟨hm1, hL1, hC1⟩ := hchk
   obtain rfl := Nat.eq_of_beq_eq_true hm1
   obtain rfl := Nat.eq_of_beq_eq_true hL1
   obtain rfl := Nat.eq_of_beq_eq_true hC1
   obtain rfl : D' = D := by rw [hm.D, ← hD]
   obtain rfl : A' = A := by rw [hm.A, ← hA]
   show wpMix P .any ops.toArray _ _ _ row (0 + (base + f)) listed a w'
   rw [Nat.zero_add]
   have hbefore : ∀ j i, (A'.getD j 0).testBit i = true → Before .any ops.toArray i j := by
    rw [hm.A]
    exact ancs_spec ops.toArray.toList [] (fun j => by simp) (fun j i hb => by simp at hb)
   -- what is ahead of a ready operation is through
   have hahead : ∀ j ∈ Region.ready .any ops.toArray listed, ∀ b, (A'.getD j 0).testBit b = true → b = j ∨ m'.testBit b = true := fun j hj b hb => by
    by_cases e : b = j
    ·exact .inl e
    ·refine .inr ?_
     have hlt : j < listed.size := by
      have h0 := (mem_ready.1 hj).1
      rcases Nat.lt_or_ge j listed.size with h | h
      ·exact h
      ·simp [Array.getElem?_eq_none h] at h0
     have h1 := hbefore j b hb _ (hm.closed.set hj) (by simp [hlt])
     rw [getD_set_ne false (Ne.symm e)] at h1
     rw [← hm.bits]; exact h1
   by_cases hall : ∀ it ∈ its, m'.testBit it.k = true
   ·-- all through
    have hf0 : f = 0 := by rw [hf, fuel_zero hall]
    subst hf0
    have hT : m' = allMask m its := Nat.eq_of_testBit_eq fun j => by
     cases h1 : m'.testBit j with
     | true => exact (allMask_bit.2 (hS.up j h1)).symm
     | false =>
      cases h2 : (allMask m its).testBit j with
      | false => rfl
      | true =>
       rcases allMask_bit.1 h2 with h3 | ⟨it, h3, h4⟩
       ·rw [hS.low j h3] at h1; cases h1
       ·rw [hS.whole it h3 j h4, hall it h3] at h1; cases h1
    have hpos : ∀ p ∈ all, ∃ it, nthI its p = some it := fun p hp => by
     have hlt : p < its.length := by have := c6 p hp; simpa using this
     exact nthI_some hlt
    obtain ⟨fr', k1, _, k2⟩ := given_elim (its := its) (lo := lo) (hi := hi) (vv := vv) all [] fr _ hS.rep (fun p hp => by
     obtain ⟨it, hit⟩ := hpos p hp
     obtain ⟨h1, h2, h3, h4, h5⟩ := hS.f p it hit (hall it (nthI_mem hit))
     exact ⟨it, hit, h1, h2, h3, h4, h5⟩) (List.Pairwise.imp_of_mem (fun {p q} hp hq hpq => by
      obtain ⟨it, hit⟩ := hpos p hp
      obtain ⟨it', hit'⟩ := hpos q hq
      exact hS.ap p q it it' hit hit' (hall it (nthI_mem hit)) (hall it' (nthI_mem hit')) (by omega)) (incrN_spec c5)) (fun q hq => by cases hq) (hend w' hS.bel)
    have := left_elim (k2 a k1) hm hlR (by rw [hT]; exact c9)
    rw [hbase] at this
    simpa using this
   ·-- the first item that is left is ready
    obtain ⟨i0, it0, hi0, hu0, hmin⟩ : ∃ i it, nthI its i = some it ∧ m'.testBit it.k = false ∧ ∀ j, j < i → ∀ x, nthI its j = some x → m'.testBit x.k = true := by
     refine Classical.byContradiction fun hno => hall fun it hit => ?_
     obtain ⟨i, _, hi'⟩ := nthI_of_mem hit
     have key : ∀ i it, nthI its i = some it → m'.testBit it.k = true := by
      intro i
      induction i using Nat.strongRecOn with
      | _ i ihi =>
       intro it hit
       cases hb : m'.testBit it.k with
       | true => rfl
       | false => exact absurd ⟨i, it, hit, hb, fun j hj x hx => ihi j hj x hx⟩ hno
     exact key i it hi'
    have hsub : ∀ it, it ∈ its → (∀ p ∈ it.pre, ∀ x, nthI its p = some x → m'.testBit x.k = true) → ∀ j, (m ||| preMask its it.pre).testBit j = true → m'.testBit j = true := fun it hit hp j hj => by
     rw [Nat.testBit_or, Bool.or_eq_true] at hj
     rcases hj with hj | hj
     ·exact hS.low j hj
     ·obtain ⟨p, h1, x, h2, h3⟩ := preMask_bit hj
      rw [hS.whole x (nthI_mem h2) j h3]
      exact hp p h1 x h2
    have hrdy0 : it0.k ∈ Region.ready .any ops.toArray listed := hm.ready (rdyK_mono (hsub it0 (nthI_mem hi0) fun p hp x hx => hmin p (by have := ((hI i0 it0 hi0).2.1 p hp).1; omega) x hx) hu0 (hI i0 it0 hi0).2.2.2.1)
    obtain ⟨f', hf'⟩ : ∃ f', f = f' + 1 := by
     have := fuel_step (T := m') (T2 := m' ||| it0.mask) hi0 hu0 (by rw [Nat.testBit_or, show it0.mask.testBit it0.k = true from bitsOf_bit.2 (by simp [Item.idx])]; simp) (fun i' it' hi' hne => by
      rw [Nat.testBit_or]
      cases hb : it0.mask.testBit it'.k with
      | false => simp
      | true => exact absurd (bitsOf_bit.1 hb) (d2 i' i0 it' it0 hi' hi0 hne it'.k (by simp [Item.idx])))
     exact ⟨fuelOf (m' ||| it0.mask) its + it0.ps.length, by omega⟩
    rw [hf', ← Nat.add_assoc]
    refine ⟨fun h => (by rw [h] at hrdy0; cases hrdy0), fun j hj => ?_⟩
    -- which one it is
    obtain ⟨hjun, oj, hoj, hjall⟩ := mem_ready.1 hj
    have hjlt : j < ops.toArray.size := (Array.getElem?_eq_some_iff.1 hoj).1
    have hju : m'.testBit j = false := by rw [← hm.getD hjlt]; exact hjun
    have hDj := hm.dAt hoj
    obtain ⟨i, it, hi', rfl⟩ : ∃ i it, nthI its i = some it ∧ it.k = j := by
     rcases hJ j _ hDj with h1 | ⟨it, h1, h2⟩ | h1
     ·rw [Nat.zero_add] at h1; rw [hS.low j h1] at hju; cases hju
     ·obtain ⟨i, _, hi'⟩ := nthI_of_mem h1
      rw [Nat.zero_add] at h2
      rcases h2 with h2 | ⟨h2, b, h3, h4⟩
      ·exact ⟨i, it, hi', h2⟩
      ·exfalso
       have h5 : m'.testBit b = true := by
        obtain ⟨e, he, hb, rfl⟩ := dmask_bit.1 h3
        rw [← hm.bits]; exact hjall e he hb
       have h6 := hS.whole it h1 b h4
       have h7 := hS.whole it h1 j (by simp [Item.idx, h2])
       rw [h5] at h6; rw [← h6, hju] at h7; cases h7
     ·exfalso
      rw [Nat.zero_add] at h1
      obtain ⟨⟨b, h2, h3⟩, h5⟩ := h1 it0 (nthI_mem hi0)
      rcases hahead j hj b h2 with h4 | h4
      ·subst h4; exact h5 h3
      ·rw [hS.whole it0 (nthI_mem hi0) b h3, hu0] at h4; cases h4
    obtain ⟨q1, q2, q3, q4, q5, q6⟩ := hI i it hi'
    have hit := nthI_mem hi'
    rw [if_pos q1]
    have hpre : ∀ p ∈ it.pre, ∃ x, nthI its p = some x ∧ m'.testBit x.k = true := fun p hp => by
     obtain ⟨h1, b, h2, x, h3, h4⟩ := q2 p hp
     refine ⟨x, h3, ?_⟩
     rcases hahead it.k hj b h2 with h5 | h5
     ·subst h5; exact absurd h4 (d2 i p it x hi' h3 (by omega) _ (by simp [Item.idx]))
     ·rw [← hS.whole x (nthI_mem h3) b h4]; exact h5
    have hsb := hsub it hit (fun p hp x hx => by
     obtain ⟨y, h1, h2⟩ := hpre p hp
     rw [hx] at h1; injection h1 with h1; rw [h1]; exact h2)
    obtain ⟨fo, hfo, hfo2⟩ := dump_ex hS.rep
    obtain ⟨T2, hT2⟩ : ∃ T2, maskAfter it.ps (m' ||| 2 ^ it.k) = T2 := ⟨_, rfl⟩
    have hT2b : ∀ j, T2.testBit j = true ↔ m'.testBit j = true ∨ j ∈ it.idx := fun j => by
     rw [← hT2, maskAfter_bit, bit_lor, Item.idx, List.mem_cons]
     constructor
     ·rintro ((h | h) | h)
      ·exact .inl h
      ·exact .inr (.inl h.symm)
      ·exact .inr (.inr h)
     ·rintro (h | h | h)
      ·exact .inl (.inl h)
      ·exact .inl (.inr h.symm)
      ·exact .inr h
    have hT2k : T2.testBit it.k = true := (hT2b _).2 (.inr (by simp [Item.idx]))
    have hT2o : ∀ i' it', nthI its i' = some it' → i' ≠ i → ∀ j ∈ it'.idx, T2.testBit j = m'.testBit j := fun i' it' hi2 hne j hj => by
     cases hb : m'.testBit j with
     | true => exact (hT2b j).2 (.inl hb)
     | false =>
      cases hb2 : T2.testBit j with
      | false => rfl
      | true =>
       rcases (hT2b j).1 hb2 with h | h
       ·rw [hb] at h; cases h
       ·exact absurd h (d2 i' i it' it hi2 hi' hne j hj)
    have hfuel := fuel_step (T := m') (T2 := T2) hi' hju hT2k (fun i' it' hi2 hne => hT2o i' it' hi2 hne it'.k (by simp [Item.idx]))
    obtain ⟨fr', k1, k2, k3⟩ := given_elim (its := its) (lo := lo) (hi := hi) (vv := vv) it.pre [] (fr ++ fo) _ (hS.rep.append hfo) (fun p hp => by
     obtain ⟨x, hx, hb⟩ := hpre p hp
     obtain ⟨h1, h2, h3, h4, h5⟩ := hS.f p x hx hb
     exact ⟨x, hx, h1, h2, h3, h4, h5⟩) (List.Pairwise.imp_of_mem (fun {p q} hp hq hpq => by
      obtain ⟨x, hx, hb⟩ := hpre p hp
      obtain ⟨y, hy, hb'⟩ := hpre q hq
      exact hS.ap p q x y hx hy hb hb' (by omega)) q3) (fun q hq => by cases hq) (hsteps it hit w' hS.bel fo m' T2 (base + fuelOf T2 its))
    have hkeep : ∀ t v, a.tmps[t]? = some v → fr'.get t = some v := fun t v hv => by
     cases hg : fr'.get t with
     | some u => rw [← hv]; exact (k1.get t u hg).symm
     | none =>
      have h1 := k2 t hg
      rw [Fr.get_append, hfo2 t v hv] at h1
      cases h2 : fr.get t <;> rw [h2] at h1 <;> cases h1
    have hL := k3 (fun vs w'' hφ hb a' ha' => by
     have hkeep' : ∀ t v, a.tmps[t]? = some v → t ∉ it.ds → a'.tmps[t]? = some v := fun t v hv ht => by
      refine ha'.get t v ?_
      rw [Fr.get_append]
      cases hz : Fr.get (it.ds.zip vs) t with
      | some u => exact absurd (zip_get hz) ht
      | none => exact hkeep t v hv
     have hss := hb.size
     have hs0 := hS.bel.size
     refine ih (fuelOf T2 its) (by omega) T2 a' w'' (fun j => if j = i then w'.heap.size else lo j) (fun j => if j = i then w''.heap.size else hi j) (fun j => if j = i then vs else vv j) rfl
      ⟨⟨ha'.size, ha'.defers, fun t v hv => hkeep' t v (hS.rep.get t v hv) (fun hd => by rw [hfr it hit t hd] at hv; cases hv)⟩, hS.bel.trans (hb.mono hs0), fun j hj => (hT2b j).2 (.inl (hS.low j hj)), fun j hj => ?_, fun it' hit' j hj => ?_, fun i' it' hi2 hb2 => ?_, fun i1 i2 x y hx hy hbx hby hne => ?_⟩
     ·rcases (hT2b j).1 hj with h | h
      ·exact hS.up j h
      ·exact .inr ⟨it, hit, h⟩
     ·obtain ⟨i', _, hi2⟩ := nthI_of_mem hit'
      by_cases e : i' = i
      ·subst e
       rw [hi'] at hi2; injection hi2 with hi2; subst hi2
       rw [hT2k, (hT2b j).2 (.inr hj)]
      ·rw [hT2o i' it' hi2 e j hj, hT2o i' it' hi2 e it'.k (by simp [Item.idx])]
       exact hS.whole it' hit' j hj
     ·by_cases e : i' = i
      ·subst e
       rw [hi'] at hi2; injection hi2 with hi2; subst hi2
       simp only [if_true]
       refine ⟨⟨ha'.size, ha'.defers, fun t v hv => ha'.get t v ?_⟩, hφ, by omega, by omega, Nat.le_refl _⟩
       rw [Fr.get_append, hv]
      ·simp only [if_neg e]
       rw [hT2o i' it' hi2 e it'.k (by simp [Item.idx])] at hb2
       obtain ⟨h1, h2, h3, h4, h5⟩ := hS.f i' it' hi2 hb2
       refine ⟨⟨ha'.size, ha'.defers, fun t v hv => hkeep' t v (h1.get t v hv) (fun hd => ?_)⟩, hstab it' (nthI_mem hi2) _ _ _ _ _ h2 hb, h3, h4, by omega⟩
       exact e2 i' i it' it hi2 hi' e t (zip_get hv) hd
     ·by_cases ex : i1 = i
      ·subst ex
       have ey : i2 ≠ i1 := Ne.symm hne
       simp only [if_true, if_neg ey]
       rw [hT2o i2 y hy ey y.k (by simp [Item.idx])] at hby
       have := (hS.f i2 y hy hby).2.2.2.2
       exact .inr this
      ·by_cases ey : i2 = i
       ·subst ey
        simp only [if_true, if_neg ex]
        rw [hT2o i1 x hx ex x.k (by simp [Item.idx])] at hbx
        have := (hS.f i1 x hx hbx).2.2.2.2
        exact .inl this
       ·simp only [if_neg ex, if_neg ey]
        rw [hT2o i1 x hx ex x.k (by simp [Item.idx])] at hbx
        rw [hT2o i2 y hy ey y.k (by simp [Item.idx])] at hby
        exact hS.ap i1 i2 x y hx hy hbx hby hne) a k1
    have hmap := inOrder_map q5
    obtain ⟨o, l', hol⟩ : ∃ o l', inOrder ops it.idx = o :: l' := by
     cases h : inOrder ops it.idx with
     | nil => rw [h] at hmap; simp [Item.idx] at hmap
     | cons o l' => exact ⟨o, l', rfl⟩
    rw [hol] at hmap
    have hmap2 : some o = ops.toArray[it.k]? ∧ l'.map some = (it.ps.map Prod.snd).map (fun k => ops.toArray[k]?) := by
     rw [Item.idx, List.map_cons, List.map_cons] at hmap
     exact List.cons.inj hmap
    obtain ⟨o1, o2⟩ := opsOf_ps (ops := ops.toArray) (l := ops.toArray.toList) (n := base + fuelOf T2 its) (T := T2) it.ps _ q6
    have hl' : l'.length = it.ps.length := by have := congrArg List.length hmap2.2; simpa using this
    have fin := hL D' A' listed o l' hol hm hmap2.1.symm (by rw [hmap2.2, o1, List.map_map]; rfl) hj (by
     rw [← hT2]
     exact chk_of_chkP (T := m') it.ps _ _ q6 (fun i hi => by rw [bit_lor] at hi ⊢; exact hi.imp (hsb i) id) (fun i hi => by
      rw [bit_lor] at hi ⊢
      rcases hi with hi | hi
      ·exact .inl hi
      ·exact .inr (.inr hi)) (fun p hp => by rw [hS.whole it hit p.2 (by simp only [Item.idx, List.mem_cons, List.mem_map]; exact .inr ⟨p, hp, rfl⟩)]; exact hju))
    rw [o2, hl'] at fin
    rw [show base + f' = it.ps.length + (base + fuelOf T2 its) by omega]
    exact fin
 intro a ha
 have h0 : ∀ it ∈ its, m.testBit it.k = false := fun it hit => d1 it hit it.k (by simp [Item.idx])
 exact main _ m a w (fun _ => 0) (fun _ => 0) (fun _ => []) rfl ⟨ha, Below.refl _ _, fun _ h => h, fun _ h => .inl h, fun it hit j hj => by rw [d1 it hit j hj, h0 it hit],
  fun i it hi hb => absurd hb (by rw [h0 it (nthI_mem hi)]; simp), fun i j it it' hi _ hb _ _ => absurd hb (by rw [h0 it (nthI_mem hi)]; simp)⟩
end
end Go.Proofs.YtahkeoegbjopfaaGreat
namespace Go.Proofs.YtahkeoegbjopfaaGreat
set_option maxRecDepth 100000
open Go.RowKit
theorem part_flatMap {f : Value → List Value} {m : Nat} : ∀ (vs : List Value) (_ : ∀ v ∈ vs, (f v).length = m) (i : Nat) (hi : i < vs.length), part (vs.flatMap f) m i = f vs[i]
 | v :: vs, h, 0, _ => by
  simp only [part, Nat.zero_mul, List.drop_zero, List.flatMap_cons, List.getElem_cons_zero]
  rw [← h v (by simp)]
  exact List.take_left
 | v :: vs, h, i + 1, hi => by
  have ih := part_flatMap vs (fun u hu => h u (by simp [hu])) i (by simpa using hi)
  simp only [part, List.flatMap_cons, List.getElem_cons_succ] at ih ⊢
  rw [← ih, show (i + 1) * m = (f v).length + i * m by rw [h v (by simp), Nat.add_mul]; omega, ← List.drop_drop, List.drop_left]
section
variable {α : Type} {X : GoT α} {e e' : TypeId} {w w' : World} {lo hi lo' hi' c b : Nat} {A : Option Addr} {L M : List α} {row : Option Nat}
def RSlT (X : GoT α) (e : TypeId) (w : World) (A : Option Addr) (L : List α) : Prop := ∃ xs, Reads w X.sz A L.length xs ∧ (∀ k, blk A = some k → TyAt w k e) ∧ ∀ i (h : i < L.length), X.T w (part xs X.sz i) L[i]
theorem RSlT.u (h : RSlT X e w A L) (hb : Below w.heap.size w w') : RSlT X e w' A L := by
 obtain ⟨xs, h1, h2, h3⟩ := h
 exact ⟨xs, h1.below hb, fun k hk => (h2 k hk).keep (hb.block k (h2 k hk).lt), fun i hi => X.tu (h3 i hi) hb⟩
theorem RSlT.d (h : RSlT X e w A L) : RSlT X e w.drew A L := h.u (below_drew w)
theorem RSlT.y (h : RSlT X e w A L) (hg : Grew w w' e' row) (hne : e' ∉ e :: X.tys) : RSlT X e w' A L := by
 obtain ⟨xs, h3, h4, h5⟩ := h
 rw [List.mem_cons, not_or] at hne
 have hb := grew_blk hg h4 hne.1
 refine ⟨xs, h3.grown hg.g hb, fun k hk => (h4 k hk).keep (hg.g.block k (h4 k hk).lt (fun e => ?_)), fun i hi => X.ty (h5 i hi) hg hne.2⟩
 rcases hb with h6 | h6
 ·rw [h6] at hk; cases hk
 ·exact h6 (hk.trans e)
theorem RSlT.to_RSl (h : RSlT X e w A L) : RSl X w A L := by obtain ⟨xs, h1, h2, h3⟩ := h; exact ⟨xs, h1, fun i hi => X.tr (h3 i hi)⟩
def OwnS (X : GoT α) (e : TypeId) (w : World) (lo hi : Nat) (A : Option Addr) (c : Nat) (L : List α) : Prop := ∃ xs, RowH w lo hi e X.sz A L.length c xs ∧ ∀ i (h : i < L.length), X.T w (part xs X.sz i) L[i]
theorem OwnS.u (h : OwnS X e w lo hi A c L) (hb : Below w.heap.size w w') : OwnS X e w' lo hi A c L := by
 obtain ⟨xs, h1, h2⟩ := h
 exact ⟨xs, h1.u hb, fun i hi => X.tu (h2 i hi) hb⟩
theorem OwnS.d (h : OwnS X e w lo hi A c L) : OwnS X e w.drew lo hi A c L := h.u (below_drew w)
theorem OwnS.y (h : OwnS X e w lo hi A c L) (hg : Grew w w' e' row) (hne : e' ∉ e :: X.tys) : OwnS X e w' lo hi A c L := by
 obtain ⟨xs, h1, h2⟩ := h
 rw [List.mem_cons, not_or] at hne
 exact ⟨xs, h1.y hg hne.1, fun i hi => X.ty (h2 i hi) hg hne.2⟩
theorem OwnS.q (h : OwnS X e w lo hi A c L) (hg : Grew w w' e' row) (ha : Ap row lo hi) (hne : e' ∉ X.tys) : OwnS X e w' lo hi A c L := by
 obtain ⟨xs, h1, h2⟩ := h
 exact ⟨xs, h1.k hg.g ha, fun i hi => X.ty (h2 i hi) hg hne⟩
theorem OwnS.ap (h : OwnS X e w lo hi A c L) (hd : hi ≤ lo' ∨ hi' ≤ lo) : Ap (blk A) lo' hi' := by obtain ⟨xs, h1, _⟩ := h; exact h1.ap hd
theorem OwnS.cap (h : OwnS X e w lo hi A c L) : L.length ≤ c := by obtain ⟨xs, h1, _⟩ := h; exact h1.cap
theorem OwnS.nil_ : OwnS X e w lo hi none 0 [] := ⟨[], RowH.nil _ _ _ _ _, fun i h => absurd h (Nat.not_lt_zero _)⟩
theorem OwnS.base (h : OwnS X e w lo hi A c L) (h1 : lo' ≤ lo) (h2 : hi ≤ hi') : OwnS X e w lo' hi' A c L := by obtain ⟨xs, h3, h4⟩ := h; exact ⟨xs, h3.base h1 h2, h4⟩
theorem OwnS.to_RSlT (h : OwnS X e w lo hi A c L) : RSlT X e w A L := by obtain ⟨xs, h1, h2⟩ := h; exact ⟨xs, h1.rd, h1.ty, h2⟩
theorem OwnS.to_RSl (h : OwnS X e w lo hi A c L) : RSl X w A L := h.to_RSlT.to_RSl
theorem litS_part {vs : List Value} {L : List α} (hn : vs.length = L.length) (hX : ∀ i (h : i < L.length), ∃ v, vs[i]? = some v ∧ v.cells.size = X.sz ∧ X.T w v.cells.toList L[i]) :
  ∀ i (h : i < L.length), X.T w (part (vs.flatMap fun v => v.cells.toList) X.sz i) L[i] := fun i h => by
 have hall : ∀ v ∈ vs, v.cells.toList.length = X.sz := fun v hv => by
  obtain ⟨j, hj, rfl⟩ := List.getElem_of_mem hv
  obtain ⟨u, h1, h2, _⟩ := hX j (by omega)
  rw [List.getElem?_eq_getElem hj] at h1
  injection h1 with h1
  rw [h1, Array.length_toList]; exact h2
 rw [part_flatMap vs hall i (by omega)]
 obtain ⟨v, h1, _, h3⟩ := hX i h
 rw [List.getElem?_eq_getElem (by omega)] at h1
 injection h1 with h1
 rw [h1]; exact h3
end
section
variable {α : Type} {X : GoT α} {P : Program} {fn : Func} {F : Ending → World → Prop} {N : Nat} {ks : List K} {ops : Array Oper} {tg : Tags} {l : List Oper} {fr : Fr} {w : World} {ty t e : TypeId} {z : Value} {pos : String} {aft : Array Edge} {gd : Option (Nat × Bool)} {d n sz bytes c j q lo hi : Nat} {x y : Operand} {A B : Option Addr} {L M : List α}
theorem wl_litS {ps : Array (Nat × Operand)} {xs : List Operand} {vs : List Value} (T : RowT P t e z X.sz bytes) (hs : ∀ w, (sizeOf e).run P w = .ok X.sz w) (hz : ∀ w, (zeroValue e).run P w = .ok z w) (hxs : ps.toList.map Prod.snd = xs) (hps : ps = ((List.range' 0 n).zip xs).toArray) (hx : fr.evs xs = some vs) (hn : vs.length = n) (hL : L.length = n)
  (hX : ∀ i (h : i < L.length), ∃ v, vs[i]? = some v ∧ v.cells.size = X.sz ∧ X.T w v.cells.toList L[i]) (hm : Nat.ble (n * X.sz) 1000000 = true)
  (hk : ∀ A w', OwnS X e w' w.heap.size w'.heap.size A n L → Below w.heap.size w w' → WL P fn F N ks ops tg.tail l ((d, .slice A n n) :: fr) w')
  (ht : tg.loud = true := by rfl) (hg : onG ops fr gd = true := by rfl) (hd : Nat.blt d N = true := by rfl) : WL P fn F N ks ops tg (⟨some d, .buildSlice t n ps, ty, pos, aft, gd⟩ :: l) fr w := by
 refine wl_litR T hs hz hxs hps hx hn (fun v hv => ?_) hm (fun A w' h1 h2 => hk A w' ⟨_, ?_, fun i h => X.tu (litS_part (w := w) (by omega) hX i h) h2⟩ h2) ht hg hd
 ·obtain ⟨j, hj, rfl⟩ := List.getElem_of_mem hv
  obtain ⟨u, h1, h2, _⟩ := hX j (by omega)
  rw [List.getElem?_eq_getElem hj] at h1
  injection h1 with h1
  rw [h1]; exact h2
 ·rw [hL]; exact h1
theorem litR_part {vs : List Value} (hn : vs.length = L.length) (hX : ∀ i (h : i < L.length), ∃ v, vs[i]? = some v ∧ v.cells.size = X.sz ∧ X.R w v.cells.toList L[i]) :
  ∀ i (h : i < L.length), X.R w (part (vs.flatMap fun v => v.cells.toList) X.sz i) L[i] := fun i h => by
 have hall : ∀ v ∈ vs, v.cells.toList.length = X.sz := fun v hv => by
  obtain ⟨j, hj, rfl⟩ := List.getElem_of_mem hv
  obtain ⟨u, h1, h2, _⟩ := hX j (by omega)
  rw [List.getElem?_eq_getElem hj] at h1
  injection h1 with h1
  rw [h1, Array.length_toList]; exact h2
 rw [part_flatMap vs hall i (by omega)]
 obtain ⟨v, h1, _, h3⟩ := hX i h
 rw [List.getElem?_eq_getElem (by omega)] at h1
 injection h1 with h1
 rw [h1]; exact h3
theorem wl_litRS {ps : Array (Nat × Operand)} {xs : List Operand} {vs : List Value} (T : RowT P t e z X.sz bytes) (hs : ∀ w, (sizeOf e).run P w = .ok X.sz w) (hz : ∀ w, (zeroValue e).run P w = .ok z w) (hxs : ps.toList.map Prod.snd = xs) (hps : ps = ((List.range' 0 n).zip xs).toArray) (hx : fr.evs xs = some vs) (hn : vs.length = n) (hL : L.length = n)
  (hX : ∀ i (h : i < L.length), ∃ v, vs[i]? = some v ∧ v.cells.size = X.sz ∧ X.R w v.cells.toList L[i]) (hm : Nat.ble (n * X.sz) 1000000 = true)
  (hk : ∀ A w', RSl X w' A L → Below w.heap.size w w' → WL P fn F N ks ops tg.tail l ((d, .slice A n n) :: fr) w')
  (ht : tg.loud = true := by rfl) (hg : onG ops fr gd = true := by rfl) (hd : Nat.blt d N = true := by rfl) : WL P fn F N ks ops tg (⟨some d, .buildSlice t n ps, ty, pos, aft, gd⟩ :: l) fr w := by
 refine wl_litR T hs hz hxs hps hx hn (fun v hv => ?_) hm (fun A w' h1 h2 => hk A w' ⟨_, ?_, fun i h => X.u (litR_part (w := w) (by omega) hX i h) h2⟩ h2) ht hg hd
 ·obtain ⟨j, hj, rfl⟩ := List.getElem_of_mem hv
  obtain ⟨u, h1, h2, _⟩ := hX j (by omega)
  rw [List.getElem?_eq_getElem hj] at h1
  injection h1 with h1
  rw [h1]; exact h2
 ·rw [hL]; exact h1.rd
theorem wl_appS (T : RowT P t e z X.sz bytes) (hx : fr.ev x = some (.slice A n c)) (hown : OwnS X e w lo hi A c L) (hn : n = L.length) (hy : fr.ev y = some (.slice B j q)) (hr : RSlT X e w B M) (hj : j = M.length) (hne : e ∉ X.tys) (h1 : ∀ w cs a, X.T w cs a → ∀ u ∈ cs, u.oneCell' = true) (hlen : (L.length + M.length) * bytes ≤ 140737488355328) (hmx : L.length + M.length ≤ 1000000000) (hB : lo ≤ w.heap.size)
  (h : ∀ A' c' w', OwnS X e w' lo w'.heap.size A' c' (L ++ M) → Grew w w' e (blk A) → Below lo w w' → (blk A' = blk A ∨ blk A' = some w.heap.size) → WL P fn F N ks ops tg.tail l ((d, .slice A' (L ++ M).length c') :: fr) w')
  (ht : tg.loud = true := by rfl) (hg : onG ops fr gd = true := by rfl) (hd : Nat.blt d N = true := by rfl) (hq : tg.calm = false ∨ blk A = none ∨ blk A = tg.row := by exact .inl rfl) :
  WL P fn F N ks ops tg (⟨some d, .call { callee := .builtin .append, args := #[x, y], argTypes := #[t, t] }, ty, pos, aft, gd⟩ :: l) fr w := by
 subst hn; subst hj
 obtain ⟨xs, g1, g2⟩ := hown
 obtain ⟨ms, r1, r2, r3⟩ := hr
 have hxl : xs.length = L.length * X.sz := g1.rd.1
 have hml : ms.length = M.length * X.sz := r1.1
 refine wl_appR T hx g1 hy r1 (fun u hu => ?_) (by simp only [maxLen]; omega) hlen hB (fun A' c' w' k1 k2 k3 k4 => ?_) ht hg hd hq
 ·obtain ⟨i, hi, rfl⟩ := List.getElem_of_mem hu
  have h0 := T.h0
  have hq : i / X.sz < M.length := (Nat.div_lt_iff_lt_mul h0).2 (by omega)
  refine h1 _ _ _ (r3 _ hq) _ (List.mem_of_getElem? (i := i % X.sz) ?_)
  rw [part_get (Nat.mod_lt _ h0), Nat.div_add_mod' i X.sz]
  exact List.getElem?_eq_getElem hi
 ·have e2 : (L ++ M).length = L.length + M.length := List.length_append
  rw [← e2] at k1 ⊢
  refine h A' c' w' ⟨_, k1, fun i hi => ?_⟩ k2 k3 k4
  rcases Nat.lt_or_ge i L.length with hl | hl
  ·rw [part_append_lt hxl hl, List.getElem_append_left hl]
   exact X.ty (g2 i hl) k2 hne
  ·rw [List.getElem_append_right hl]
   have hi2 : i - L.length < M.length := by rw [e2] at hi; omega
   have := X.ty (r3 _ hi2) k2 hne
   have e3 : part (xs ++ ms) X.sz i = part ms X.sz (i - L.length) := by
    unfold part
    rw [show i * X.sz = xs.length + (i - L.length) * X.sz by rw [hxl, ← Nat.add_mul]; congr 1; omega, ← List.drop_drop, List.drop_left]
   rw [e3]; exact this
end
end Go.Proofs.YtahkeoegbjopfaaGreat
