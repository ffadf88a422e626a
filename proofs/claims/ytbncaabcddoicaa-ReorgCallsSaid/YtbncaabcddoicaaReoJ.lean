/-
  Walks of chapter 18: a plan in memory of its own; the examples.
-/
import Derived.Test.YtbncaabcddoicaaReoI
namespace Go.Proofs.Ytbncaabcddoicaa
open Go.RowKit

theorem C_lplan {p : Pl} {v : Value} (w : World) (hp : PlV w p v) (h1 : p.undo.length ≤ 4000000) (h2 : p.doo.length ≤ 4000000) :
    CallsR Try.prog 16 [v] w fun v w' => PlO w' w.heap.size p v ∧ Below w.heap.size w w' := by
  obtain ⟨A, c, B, d, rfl, hA, hB, hc, hd⟩ := hp
  refine callsR Try.func16 rfl rfl (by kernel_rfl) rfl ?_
  refine rk_seq ?_
  refine rk_region ?_
  refine wl_box [.int .i64 p.keep, .slice A p.undo.length c, .slice B p.doo.length d] rfl rfl ?_
  intro w1 hB1 hb1 hz1
  refine wl_alloc pl0c Try.zeroValue25 rfl ?_
  intro w2 hB2 hb2 hz2
  have hw2 := hb1.trans (hb2.mono hb1.size)
  have hB12 := (hB1.under hb2).drew
  have hw2d := hw2.drew
  refine wl_nil ?_
  refine rk_seq ?_
  refine rk_drawo (id := 1) (none) [0, 1, 2, 0, 8, 20, 31, 127, 255, 511] [0, 1, 3, 0, 8, 31, 31, 127, 255, 511] 676 4 [0, 1, 3, 4, 2, 6, 5, 7, 8, 9] [(.p, 0), (.r, 1), (.p, 3), (.s, 4), (.c, 2), (.p, 6), (.l, 5), (.l, 7), (.p, 8), (.l, 9)] (by kernel_rfl) (by kernel_rfl) (by kernel_rfl) (by kernel_rfl) (by kernel_rfl) ?_
  dsimp only [inOrder, nthOp]
  refine wl_p (fun _ => o_faddr (s := 25) (i := 1) (off := 1) Try.underlying25 rfl Try.sizeOf23 rfl rfl rfl) ?_
  refine wl_r (o_loadb (t := 23) Try.isAgg23 rfl hB12 (by rfl)) ?_
  refine wl_p (fun _ => o_faddr (s := 25) (i := 2) (off := 2) Try.underlying25 rfl Try.sizeOf23 rfl rfl rfl) ?_
  refine wl_s (fun _ hk => o_loadb (t := 23) Try.isAgg23 rfl (hB12.grown hk (Option.some_ne_none _)) (by rfl)) ?_
  refine wl_call rfl (C_Names c rfl w2.drew (hA.below hw2d) h1) ?_ (hq := .inr fun _ _ h => grown_of_below h.choose_spec.choose_spec.2.2 _)
  rintro _ w3 ⟨A3, c3, rfl, hown3, hb3⟩
  have hw3 := hw2d.trans (hb3.mono hw2d.size)
  have hB13 := hB12.under hb3
  have hB23 := hB2.drew.under hb3
  refine wl_p (fun _ => o_faddr (s := 25) (i := 1) (off := 1) Try.underlying25 rfl Try.sizeOf23 rfl rfl rfl) ?_
  refine wl_call rfl (C_Names d rfl w3 (hB.below hw3) h2) ?_
  rintro _ w4 ⟨A4, c4, rfl, hown4, hb4⟩
  have hw4 := hw3.trans (hb4.mono hw3.size)
  have hB14 := hB13.under hb4
  have hB24 := hB23.under hb4
  refine wl_store1 Try.sizeOf23 rfl rfl rfl hB14 (by simp) ?_
  intro w5 hB5 hg5 hz5
  refine wl_p (fun _ => o_faddr (s := 25) (i := 2) (off := 2) Try.underlying25 rfl Try.sizeOf23 rfl rfl rfl) ?_
  refine wl_store1 Try.sizeOf23 rfl rfl rfl hB5 (by simp) ?_
  intro w6 hB6 hg6 hz6
  have hg46 := grownBy_trans hg5 hg6
  have hw6 := hw4.trans (below_of_grownBy hg46 hw4.size (Nat.le_refl _))
  have hB26 := hB24.grown hg46 (by intro e; injection e with e; omega)
  refine wl_nild ?_
  refine rk_seq ?_
  refine rk_region ?_
  refine wl_r (o_load_all (t := 25) Try.isAgg25 Try.sizeOf25 rfl hB6 (by rfl)) ?_
  refine wl_store_all Try.sizeOf25 rfl rfl rfl (fun u hu => by simp at hu; rcases hu with rfl | rfl | rfl <;> rfl) hB26 rfl ?_
  intro w7 hB7 hg7 hz7
  refine wl_nil ?_
  refine ret_cell rfl rfl Try.isAgg25 Try.sizeOf25 hB7 rfl ?_
  have s23 : w2.heap.size ≤ w3.heap.size := hb3.size
  have b3 : ∀ k, blk A3 = some k → w2.heap.size ≤ k := fun k e => (hown3.lt k e).1
  have b4 : ∀ k, blk A4 = some k → w3.heap.size ≤ k := fun k e => (hown4.lt k e).1
  have n3 : blk A3 ≠ some w.heap.size := fun e => by have := b3 _ e; omega
  have n4 : blk A4 ≠ some w.heap.size := fun e => by have := b4 _ e; omega
  have m3 : blk A3 ≠ some w1.heap.size := fun e => by have := b3 _ e; omega
  have m4 : blk A4 ≠ some w1.heap.size := fun e => by have := b4 _ e; omega
  exact ⟨⟨A3, c3, A4, c4, rfl, (((hown3.below hb4).kept hg46 (.inr n3)).kept hg7 (.inr m3)).base hw2.size, ((hown4.kept hg46 (.inr n4)).kept hg7 (.inr m4)).base hw3.size⟩, hw6.trans (below_of_grownBy hg7 hw6.size (by omega))⟩

theorem Try.rowI : RowT Try.prog 22 3 (.int .i64 0) 1 8 := ⟨Try.underlying22, by kernel_rfl, rfl, by omega⟩
theorem wl_litZ {fn : Func} {F : Ending → World → Prop} {N : Nat} {ks : List K} {ops : Array Oper} {tg : Tags} {l : List Oper} {fr : Fr} {w : World} {ty : TypeId} {pos : String} {aft : Array Edge} {gd : Option (Nat × Bool)} {d : Nat} {xs : List Operand} (zs : List Int) (n : Nat)
    (hx : fr.evs xs = some (zs.map (Value.int .i64))) (hn : zs.length = n) (hm : Nat.ble (n * 1) 1000000 = true)
    (hk : ∀ w', Reads w' 1 (some ⟨w.heap.size, 0, none⟩) zs.length (zs.map (Value.int .i64)) → Below w.heap.size w w' → w'.heap.size = w.heap.size + 1 → WL Try.prog fn F N ks ops tg.tail l ((d, .slice (some ⟨w.heap.size, 0, none⟩) n n) :: fr) w')
    (ht : tg.loud = true := by rfl) (hg : onG ops fr gd = true := by rfl) (hd : Nat.blt d N = true := by rfl) : WL Try.prog fn F N ks ops tg (⟨some d, .buildSlice 22 n ((List.range' 0 n).zip xs).toArray, ty, pos, aft, gd⟩ :: l) fr w := by
  subst hn
  refine wl_litn Try.rowI Try.sizeOf3 Try.zeroValue3 zs.length hx (by simp) (fun v hv => ?_) hm (fun w' h1 h2 h3 => hk w' ?_ h2 h3) ht hg hd
  · obtain ⟨z, _, rfl⟩ := List.mem_map.1 hv
    rfl
  · have h4 := Reads.of_own (h1 _ (Nat.le_refl _))
    have e : (zs.map (Value.int .i64)).flatMap (fun v => v.cells.toList) = zs.map (Value.int .i64) := by
      clear h1 h4 hk hm hx
      induction zs with
      | nil => rfl
      | cons d L ih => rw [List.map_cons, List.flatMap_cons, ih]; rfl
    rwa [e] at h4
theorem from123 : pFrom ([1, 2, 3].map nm) ([1, 3, 2].map nm) = (⟨1, [2, 3].map nm, [3, 2].map nm⟩, 0) := by decide +kernel
theorem apply124 : (pApply ⟨1, [2, 3].map nm, [3, 2].map nm⟩ ([1, 2, 4].map nm)) = ([], 4) := by decide +kernel

set_option maxHeartbeats 400000 in
theorem C_lives (w : World) : CallsR Try.prog 8 [] w fun v w' => v = .bool true ∧ Below w.heap.size w w' := by
  refine callsR Try.func8 rfl rfl (by kernel_rfl) rfl ?_
  refine rk_seq ?_
  refine rk_region ?_
  refine wl_p (fun _ => o_assign rfl) ?_
  refine wl_nil ?_
  refine rk_seq ?_
  refine rk_region ?_
  refine wl_litZ (xs := [.const (.int .i64 1), .const (.int .i64 2), .const (.int .i64 3)]) [1, 2, 3] 3 rfl rfl rfl ?_
  intro w1 hr1 hb1 hz1
  refine wl_call rfl (C_names (zs := [1, 2, 3]) 3 rfl w1 hr1 (by simp)) ?_
  rintro _ w2 ⟨A2, c2, rfl, hown2, hb2⟩
  have hw2 := hb1.trans (hb2.mono hb1.size)
  refine wl_litZ (xs := [.const (.int .i64 1), .const (.int .i64 3), .const (.int .i64 2)]) [1, 3, 2] 3 rfl rfl rfl ?_
  intro w3 hr3 hb3 hz3
  have hw3 := hw2.trans (hb3.mono hw2.size)
  refine wl_call rfl (C_names (zs := [1, 3, 2]) 3 rfl w3 hr3 (by simp)) ?_
  rintro _ w4 ⟨A4, c4, rfl, hown4, hb4⟩
  have hw4 := hw3.trans (hb4.mono hw3.size)
  obtain ⟨a, ha⟩ : ∃ a, a = ([1, 2, 3] : List Int).map nm := ⟨_, rfl⟩
  obtain ⟨b, hb⟩ : ∃ b, b = ([1, 3, 2] : List Int).map nm := ⟨_, rfl⟩
  have hown24 := (hown2.below hb3).below hb4
  rw [← ha] at hown24
  rw [← hb] at hown4
  have la : a.length = 3 := by rw [ha]; rfl
  have lb : b.length = 3 := by rw [hb]; rfl
  obtain ⟨p, hp⟩ : ∃ p : Pl, p = ⟨1, [2, 3].map nm, [3, 2].map nm⟩ := ⟨_, rfl⟩
  have hf : pFrom a b = (p, 0) := by rw [ha, hb, hp]; exact from123
  have hlim : lim p := by rw [hp]; exact ⟨by simp, by simp⟩
  refine wl_call rfl (C_From (a := a) (b := b) c2 c4 la.symm lb.symm w4 hown24.rd hown4.rd (by omega) (by omega) hown24.cap hown4.cap) ?_
  rintro _ w5 ⟨u5, rfl, hP5, hb5⟩
  have hw5 := hw4.trans (hb5.mono hw4.size)
  rw [hf] at hP5 ⊢
  obtain ⟨vs, rfl, hvl, hv1⟩ := hP5.cells
  refine wl_p (fun _ => o_move rfl) ?_
  refine wl_p (fun _ => o_ext20 rfl) ?_
  refine wl_p (fun _ => o_ext21 rfl) ?_
  refine wl_alloc pl0c Try.zeroValue25 rfl ?_
  intro w6 hB6 hb6 hz6
  refine wl_store_all Try.sizeOf25 rfl rfl hvl hv1 hB6 rfl ?_
  intro w7 hB7 hg7 hz7
  have hb57 : Below w5.heap.size w5 w7 := hb6.trans (below_of_grownBy hg7 hb6.size (Nat.le_refl _))
  have hw7 := hw5.trans (hb57.mono hw5.size)
  have hP7 := hP5.below hb57
  refine wl_p (fun _ => o_assign rfl) ?_
  refine wl_nil ?_
  refine rk_seq ?_
  refine rk_draw (id := 2) (none) [0, 0, 2, 5, 8, 16, 16, 63, 255] [0, 0, 2, 7, 15, 31, 31, 63, 255] 14 6 [(.s, 0), (.c, 1), (.c, 2), (.l, 3), (.p, 4), (.p, 5), (.p, 6), (.p, 7), (.p, 8)] (by kernel_rfl) (by kernel_rfl) (by kernel_rfl) (by kernel_rfl) (by kernel_rfl) ?_
  refine wl_s (fun _ hk => o_load_all (t := 25) Try.isAgg25 Try.sizeOf25 rfl (hB7.drew.under (below_of_grown_none hk)) hvl) ?_
  refine wl_litZ (xs := [.const (.int .i64 1), .const (.int .i64 2), .const (.int .i64 4)]) [1, 2, 4] 3 rfl rfl rfl ?_
  intro w8 hr8 hb8 hz8
  have hw8 := hw7.drew.trans (hb8.mono hw7.size)
  refine wl_call rfl (C_names (zs := [1, 2, 4]) 3 rfl w8 hr8 (by simp)) ?_ (hq := .inr fun _ _ h => grown_of_below h.choose_spec.choose_spec.2.2 _)
  rintro _ w9 ⟨A9, c9, rfl, hown9, hb9⟩
  have hw9 := hw8.trans (hb9.mono hw8.size)
  obtain ⟨o, ho⟩ : ∃ o, o = ([1, 2, 4] : List Int).map nm := ⟨_, rfl⟩
  rw [← ho] at hown9
  have lo : o.length = 3 := by rw [ho]; rfl
  have hap : pApply p o = ([], 4) := by rw [hp, ho]; exact apply124
  have hP9 := ((hP7.pl.drew).below hb8).below hb9
  refine wl_call rfl (C_Apply (p := p) (old := o) c9 lo.symm w9 hP9 hlim hown9.rd hown9.cap (by omega)) ?_
  rintro _ w10 ⟨A10, c10, rfl, hown10, hb10⟩
  have hw10 := hw9.trans (hb10.mono hw9.size)
  have hP10 := hP9.below hb10
  have hB10 := ((hB7.drew.under hb8).under hb9).under hb10
  rw [hap] at hown10 ⊢
  simp only at hown10 ⊢
  refine wl_p (fun _ => o_move rfl) ?_
  refine wl_p (fun _ => o_ext20 rfl) ?_
  refine wl_p (fun _ => o_ext21 rfl) ?_
  refine wl_p (fun _ => o_assign rfl) ?_
  refine wl_p (fun _ => o_assign rfl) ?_
  refine wl_nild ?_
  refine rk_seq ?_
  refine rk_drawo (id := 3) (none) [0, 1, 2, 4, 4, 20, 4, 100, 164, 396, 516, 1536, 2048, 6144, 10240, 32767] [0, 1, 3, 7, 7, 23, 7, 119, 247, 511, 1023, 2047, 4095, 8191, 16383, 32767] 752 240 [0, 1, 2, 3] [(.p, 0), (.p, 1), (.p, 2), (.s, 3), (.f 15 752 240, 12)] (by kernel_rfl) (by kernel_rfl) (by kernel_rfl) (by kernel_rfl) (by kernel_rfl) ?_
  dsimp only [inOrder, nthOp]
  refine wl_p (fun _ => o_move rfl) ?_
  refine wl_p (fun _ => o_eq rfl rfl) ?_
  refine wl_p (fun _ => o_move rfl) ?_
  refine wl_know 22 true rfl (by decide) ?_
  refine wl_s (fun _ hk => o_load_all (t := 25) Try.isAgg25 Try.sizeOf25 rfl (hB10.drew.under (below_of_grown_none hk)) hvl) ?_
  refine wl_fork2j (m := 15) (L := 752) (C := 240) (n := 12) (k1 := 4) (k2 := 6) (fun fr w' => ∃ A c A6, fr = [(4, .int .i64 4), (22, .bool true), (23, .agg vs.toArray), (25, .slice A 2 c), (26, .slice A6 2 2)] ∧ RD w' A ([2, 3].map nm) ∧ 2 ≤ c ∧ Reads w' 1 A6 2 ([3, 2].map (Value.int .i64)) ∧ Below w10.heap.size w10 w') [0, 1, 2, 4, 4, 20, 4, 100, 164, 396, 516, 1536, 2048, 6144, 10240, 32767] [0, 1, 3, 7, 7, 23, 7, 119, 247, 511, 1023, 2047, 4095, 8191, 16383, 32767] [4] [6, 4, 5, 7, 8, 9, 10, 11, 12, 13, 14, 15] [7, 8, 9, 10, 11, 12, 13, 14, 15] [(.f 31 752 240, 11)] [(.c, 4), (.c, 5), (.c, 7), (.p, 8), (.l, 9), (.p, 10), (.p, 11), (.p, 12), (.p, 13), (.p, 14), (.p, 15)] [(.c, 7), (.p, 8), (.l, 9), (.p, 10), (.p, 11), (.p, 12), (.p, 13), (.p, 14), (.p, 15)] (by kernel_rfl) (by kernel_rfl) (by kernel_rfl) (by kernel_rfl) (by kernel_rfl) ?_ (fun hj => ?_) (fun hj => ?_) <;> dsimp only [inOrder, nthOp]
  · rintro fr w11 ⟨A, c, A6, rfl, hA, hc, hr6, hb11⟩
    have hw11 := hw10.trans (hb11.mono hw10.size)
    refine wl_call rfl (C_names (zs := [3, 2]) 2 rfl w11 hr6 (by simp)) ?_ (hq := .inr fun _ _ h => grown_of_below h.choose_spec.choose_spec.2.2 _)
    rintro _ w12 ⟨A12, c12, rfl, hown12, hb12⟩
    have hw12 := hw11.trans (hb12.mono hw11.size)
    refine wl_p (fun _ => o_build (is := [0, 1, 2]) (xs := [.const (.int .i64 1), .tmp 25, .tmp 27]) rfl (fun w => Try.build_Plan _ _ _ _ _ _ _ _ _ _ rfl rfl rfl w)) ?_
    have hP12 := (hP10.below hb11).below hb12
    have hQ12 : PlV w12 p (.agg #[.int .i64 1, .slice A 2 c, .slice A12 2 c12]) := by
      rw [hp]
      exact ⟨A, c, A12, c12, rfl, hA.below hb12, hown12.rd, hc, hown12.cap⟩
    have hl1 := hlim.1
    have hl2 := hlim.2
    refine wl_call rfl (C_kPlan (p := p) w12 hP12 hQ12 (by omega) (by omega) (by omega) (by omega)) ?_
    rintro _ w13 ⟨rfl, hb13⟩
    refine wl_p (fun _ => o_pick_t rfl rfl) ?_
    refine wl_p (fun _ => o_move rfl) ?_
    refine wl_know 31 true rfl (decide_eq_true rfl) ?_
    refine wl_p (fun _ => o_move rfl) ?_
    refine wl_p (fun _ => o_eq rfl rfl) ?_
    refine wl_p (fun _ => o_pick_t rfl rfl) ?_
    refine wl_p (fun _ => o_assign rfl) ?_
    refine wl_nild ?_
    refine ret1 rfl rfl ?_
    exact ⟨rfl, hw12.trans (hb13.mono hw12.size)⟩
  · refine wl_litZ (xs := [.const (.int .i64 2), .const (.int .i64 3)]) [2, 3] 2 rfl rfl rfl ?_
    intro w11 hr11 hb11 hz11
    have hdr : Below w10.heap.size w10 w10.drew := (Below.refl _ w10).drew
    replace hb11 : Below w10.heap.size w10 w11 := hdr.trans hb11
    refine wl_fork2j (m := 31) (L := 752) (C := 240) (n := 11) (k1 := 5) (k2 := 6) (fun fr w' => ∃ A c A6, fr = [(4, .int .i64 4), (22, .bool true), (23, .agg vs.toArray), (25, .slice A 2 c), (26, .slice A6 2 2)] ∧ RD w' A ([2, 3].map nm) ∧ 2 ≤ c ∧ Reads w' 1 A6 2 ([3, 2].map (Value.int .i64)) ∧ Below w10.heap.size w10 w') [0, 1, 2, 4, 4, 20, 4, 100, 164, 396, 516, 1536, 2048, 6144, 10240, 32767] [0, 1, 3, 7, 7, 23, 7, 119, 247, 511, 1023, 2047, 4095, 8191, 16383, 32767] [5, 6, 7, 8, 9, 10, 11, 12, 13, 14, 15] [6, 5, 7, 8, 9, 10, 11, 12, 13, 14, 15] [7, 8, 9, 10, 11, 12, 13, 14, 15] [(.c, 6), (.c, 7), (.p, 8), (.l, 9), (.p, 10), (.p, 11), (.p, 12), (.p, 13), (.p, 14), (.p, 15)] [(.c, 5), (.c, 7), (.p, 8), (.l, 9), (.p, 10), (.p, 11), (.p, 12), (.p, 13), (.p, 14), (.p, 15)] [(.c, 7), (.p, 8), (.l, 9), (.p, 10), (.p, 11), (.p, 12), (.p, 13), (.p, 14), (.p, 15)] (by kernel_rfl) (by kernel_rfl) (by kernel_rfl) (by kernel_rfl) (by kernel_rfl) ?_ (fun hj => ?_) (fun hj => ?_) <;> dsimp only [inOrder, nthOp]
    · exact fun fr w' h => hj fr w' h
    · refine wl_call rfl (C_names (zs := [2, 3]) 2 rfl w11 hr11 (by simp)) ?_ (hq := .inr fun _ _ h => grown_of_below h.choose_spec.choose_spec.2.2 _)
      rintro _ w12 ⟨A12, c12, rfl, hown12, hb12⟩
      have hb12' := hb11.trans (hb12.mono hb11.size)
      refine wl_litZ (xs := [.const (.int .i64 3), .const (.int .i64 2)]) [3, 2] 2 rfl rfl rfl ?_
      intro w13 hr13 hb13 hz13
      exact wl_to hj (by repeat' constructor) ⟨A12, c12, _, rfl, hown12.rd.below hb13, hown12.cap, hr13, hb12'.trans (hb13.mono hb12'.size)⟩
    · refine wl_litZ (xs := [.const (.int .i64 3), .const (.int .i64 2)]) [3, 2] 2 rfl rfl rfl ?_
      intro w12 hr12 hb12 hz12
      have hb12' := hb11.trans (hb12.mono hb11.size)
      refine wl_call rfl (C_names (zs := [2, 3]) 2 rfl w12 (hr11.below hb12) (by simp)) ?_ (hq := .inr fun _ _ h => grown_of_below h.choose_spec.choose_spec.2.2 _)
      rintro _ w13 ⟨A13, c13, rfl, hown13, hb13⟩
      exact wl_to hj (by repeat' constructor) ⟨A13, c13, _, rfl, hown13.rd, hown13.cap, hr12.below hb13, hb12'.trans (hb13.mono hb12'.size)⟩
  · refine wl_litZ (xs := [.const (.int .i64 3), .const (.int .i64 2)]) [3, 2] 2 rfl rfl rfl ?_
    intro w11 hr11 hb11 hz11
    have hdr : Below w10.heap.size w10 w10.drew := (Below.refl _ w10).drew
    replace hb11 : Below w10.heap.size w10 w11 := hdr.trans hb11
    refine wl_litZ (xs := [.const (.int .i64 2), .const (.int .i64 3)]) [2, 3] 2 rfl rfl rfl ?_
    intro w12 hr12 hb12 hz12
    have hb12' := hb11.trans (hb12.mono hb11.size)
    refine wl_call rfl (C_names (zs := [2, 3]) 2 rfl w12 hr12 (by simp)) ?_ (hq := .inr fun _ _ h => grown_of_below h.choose_spec.choose_spec.2.2 _)
    rintro _ w13 ⟨A13, c13, rfl, hown13, hb13⟩
    exact wl_to hj (by repeat' constructor) ⟨A13, c13, _, rfl, hown13.rd, hown13.cap, (hr11.below hb12).below hb13, hb12'.trans (hb13.mono hb12'.size)⟩
end Go.Proofs.Ytbncaabcddoicaa
