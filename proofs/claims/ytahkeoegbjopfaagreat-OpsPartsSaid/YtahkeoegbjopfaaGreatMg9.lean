/-
  The chapter's examples.
-/
import Derived.Test.YtahkeoegbjopfaaGreatMg8
import Derived.Laws.IdiomStrings
import Derived.OpenShut
namespace Go.Proofs.YtahkeoegbjopfaaGreat
set_option maxRecDepth 100000
open Go.RowKit
section
variable {P : Program} {fn : Func} {F : Ending → World → Prop} {N : Nat} {ks : List K} {ops : Array Oper} {tg : Tags} {l : List Oper} {fr : Fr} {w : World} {ty src dst : TypeId} {pos : String} {aft : Array Edge} {gd : Option (Nat × Bool)} {d : Nat} {x : Operand} {p : By}
--@ rule convert l wl_cvS
/-- []byte(s) -/
theorem wl_cvS (hs : P.underlying src = some .string) (hds : P.underlying dst = some (.slice 5)) (he : P.underlying 5 = some (.int .u8)) (hx : fr.ev x = some (.string ⟨p.toArray⟩)) (hl : p.length ≤ 1000000)
    (hk : ∀ A c w', RdT w' A p → p.length ≤ c → c ≤ maxLen → Below w.heap.size w w' → WL P fn F N ks ops tg.tail l ((d, .slice A p.length c) :: fr) w')
    (ht : tg.loud = true := by rfl) (hg : onG ops fr gd = true := by rfl) (hd : Nat.blt d N = true := by rfl) : WL P fn F N ks ops tg (⟨some d, .convert src dst x, ty, pos, aft, gd⟩ :: l) fr w := by
  have hsz : (⟨p.toArray⟩ : ByteArray).size = p.length := rfl
  have hrun := run_bytes_of_string (P := P) w src dst 5 ⟨p.toArray⟩ hs hds he
  rw [hsz] at hrun
  have hge := grownCap_ge w p.length 0 5
  have hcm : grownCap w p.length 0 5 ≤ maxLen := grownCap_le_maxLen w p.length 0 5 (by simp only [maxLen]; omega)
  generalize hq : grownCap w p.length 0 5 = cq at *
  generalize hf : ((bytesRow ⟨p.toArray⟩ cq).size, (bytesRow ⟨p.toArray⟩ cq).size + 1) = fq at *
  have hbl : Below w.heap.size w (w.drew.alloc (.cells (bytesRow ⟨p.toArray⟩ cq) 5 fq)) := ((Below.refl w.heap.size w).drew.alloc (Nat.le_refl _) _)
  refine wl_v (fun a ha o ho _ => by simp [execOp, ho, ha.ev hx, hrun]) (hk _ _ _ ⟨⟨by rw [B8_length, Nat.mul_one], fun _ => ⟨w.heap.size, 0, rfl, fun j v hj => ?_⟩⟩, fun k hk => ?_⟩ hge hcm hbl) ht hg hd (.inr (grown_of_below hbl _))
  · have h0 : (w.drew.alloc (.cells (bytesRow ⟨p.toArray⟩ cq) 5 fq)).cell? ⟨w.heap.size, j, none⟩ = (bytesRow ⟨p.toArray⟩ cq)[j]? := World.cell?_alloc_mark w.drew _ 5 fq j
    rw [Nat.zero_add, h0]
    have hjl : j < p.length := by
      rcases Nat.lt_or_ge j p.length with h | h
      · exact h
      · rw [List.getElem?_eq_none (by rw [B8_length]; exact h)] at hj; cases hj
    rw [bytesRow_at _ _ _ (by simpa using hjl)]
    rw [B8_get p j hjl] at hj
    simpa using hj
  · obtain rfl : w.heap.size = k := by simpa [blk] using hk
    exact ⟨bytesRow ⟨p.toArray⟩ cq, fq, by show (w.heap.push _)[w.heap.size]? = _; simp⟩
end
def kA : Ky := ⟨1 :: List.replicate 31 0, rfl⟩
def kB : Ky := ⟨2 :: List.replicate 31 0, rfl⟩
theorem C_a (w : World) : CallsR Tryz.prog 31 [] w fun v w' => v = .agg (B8 kA.1).toArray ∧ Below w.heap.size w w' := by
  refine callsR Tryz.func31 rfl rfl (by kernel_rfl) rfl ?_
  have hw := Below.refl w.heap.size w
  refine rk_seq ?_
  refine rk_region ?_
  refine wl_allocg [_, _, _, _, _, _, _, _, _, _, _, _, _, _, _, _, _, _, _, _, _, _, _, _, _, _, _, _, _, _, _, _] Tryz.zeroValue42 (by rfl) ?_
  rintro g0 w0 f0 b0 i0 i0_1
  have s0 := b0.size
  replace hw := hw.trans (b0.mono hw.size)
  refine wl_nil ?_
  refine rk_seq ?_
  refine rk_region ?_
  refine wl_p (fun _ => (o_buildga [_, _, _, _, _, _, _, _, _, _, _, _, _, _, _, _, _, _, _, _, _, _, _, _, _, _, _, _, _, _, _, _] Tryz.underlying42 Tryz.sizeOf5 Tryz.zeroValue42 (by rfl) (by rfl) rfl (by rfl) (by rfl) (fun _ => by kernel_rfl))) ?_
  refine wl_storega Tryz.sizeOf42 rfl rfl (by rfl) (by decide) f0 (by rfl) ?_
  rintro w_1 f g e
  have s := g.size
  replace hw := hw.trans (below_of_grownBy g.g hw.size (by omega))
  clear f0
  refine wl_nil ?_
  refine ret_cell rfl rfl Tryz.isAgg42 Tryz.sizeOf42 (by assumption) rfl ?_
  exact ⟨rfl, hw⟩
theorem C_b (w : World) : CallsR Tryz.prog 33 [] w fun v w' => v = .agg (B8 kB.1).toArray ∧ Below w.heap.size w w' := by
  refine callsR Tryz.func33 rfl rfl (by kernel_rfl) rfl ?_
  have hw := Below.refl w.heap.size w
  refine rk_seq ?_
  refine rk_region ?_
  refine wl_allocg [_, _, _, _, _, _, _, _, _, _, _, _, _, _, _, _, _, _, _, _, _, _, _, _, _, _, _, _, _, _, _, _] Tryz.zeroValue42 (by rfl) ?_
  rintro g0 w0 f0 b0 i0 i0_1
  have s0 := b0.size
  replace hw := hw.trans (b0.mono hw.size)
  refine wl_nil ?_
  refine rk_seq ?_
  refine rk_region ?_
  refine wl_p (fun _ => (o_buildga [_, _, _, _, _, _, _, _, _, _, _, _, _, _, _, _, _, _, _, _, _, _, _, _, _, _, _, _, _, _, _, _] Tryz.underlying42 Tryz.sizeOf5 Tryz.zeroValue42 (by rfl) (by rfl) rfl (by rfl) (by rfl) (fun _ => by kernel_rfl))) ?_
  refine wl_storega Tryz.sizeOf42 rfl rfl (by rfl) (by decide) f0 (by rfl) ?_
  rintro w_1 f g e
  have s := g.size
  replace hw := hw.trans (below_of_grownBy g.g hw.size (by omega))
  clear f0
  refine wl_nil ?_
  refine ret_cell rfl rfl Tryz.isAgg42 Tryz.sizeOf42 (by assumption) rfl ?_
  exact ⟨rfl, hw⟩
theorem C_alone (w : World) : CallsR Tryz.prog 11 [] w fun v w' => ∃ B C, v = .agg #[.slice none 0 0, .slice B 1 1, .slice C 1 1] ∧ RKT w' B [kA] ∧ RKT w' C [kA] ∧ Below w.heap.size w w' := by
  refine callsR Tryz.func11 rfl rfl (by kernel_rfl) rfl ?_
  have hw := Below.refl w.heap.size w
  refine rk_seq ?_
  refine rk_region ?_
  refine wl_allocg [_, _, _] Tryz.zeroValue31 (by rfl) ?_
  rintro g0 w0 f0 b0 i0 i0_1
  have s0 := b0.size
  replace hw := hw.trans (b0.mono hw.size)
  refine wl_nil ?_
  refine rk_seq ?_
  refine rk_region ?_
  refine wl_call rfl (C_a _) ?_
  rintro v1 w1 ⟨rfl, b1⟩
  have s1 := b1.size
  replace hw := hw.trans (b1.mono hw.size)
  replace f0 := f0.u b1
  refine wl_litKs1 (by rfl) rfl (by rfl) ?_
  rintro A2 w2 f2 b2
  have qf2 := f2.cap
  have s2 := b2.size
  replace hw := hw.trans (b2.mono hw.size)
  replace f0 := f0.u b2
  refine wl_call rfl (C_a _) ?_
  rintro v3 w3 ⟨rfl, b3⟩
  have s3 := b3.size
  replace hw := hw.trans (b3.mono hw.size)
  replace f0 := f0.u b3
  replace f2 := f2.u b3
  refine wl_litKs1 (by rfl) rfl (by rfl) ?_
  rintro A4 w4 f4 b4
  have qf4 := f4.cap
  have s4 := b4.size
  replace hw := hw.trans (b4.mono hw.size)
  replace f2 := f2.u b4
  replace f0 := f0.u b4
  refine wl_p (fun _ => (o_buildg [_, _, _] Tryz.underlying31 Tryz.zeroValue31 (by rfl) (by rfl) rfl (by rfl) (by rfl) (fun _ => by kernel_rfl))) ?_
  refine wl_storega Tryz.sizeOf31 rfl rfl (by rfl) (oneCell_of (by rfl)) f0 (by rfl) ?_
  rintro w_1 f g e
  have s := g.size
  replace hw := hw.trans (below_of_grownBy g.g hw.size (by omega))
  replace f2 := f2.y g (by decide)
  replace f4 := f4.y g (by decide)
  clear f0
  refine wl_nil ?_
  refine ret_cell rfl rfl Tryz.isAgg31 Tryz.sizeOf31 (by assumption) rfl ?_
  exact ⟨A2, A4, rfl, f2.to_RKT, f4.to_RKT, hw⟩
theorem C_put {p q : By} (w : World) (hp : p.length ≤ 1000) (hq : q.length ≤ 1000) : CallsR Tryz.prog 32 [.string ⟨p.toArray⟩, .string ⟨q.toArray⟩] w fun v w' => ∃ K c V d, v = .agg (opC 1 K p.length c V q.length d z32).toArray ∧ RdT w' K p ∧ p.length ≤ c ∧ c ≤ maxLen ∧ RdT w' V q ∧ q.length ≤ d ∧ d ≤ maxLen ∧ Below w.heap.size w w' := by
  refine callsR Tryz.func32 rfl rfl (by kernel_rfl) rfl ?_
  have hw := Below.refl w.heap.size w
  refine rk_seq ?_
  refine rk_region ?_
  refine wl_allocOp ?_
  rintro g4 w4 f4 b4 i4 i4_1
  have s4 := b4.size
  replace hw := hw.trans (b4.mono hw.size)
  refine wl_nil ?_
  refine rk_seq ?_
  refine rk_region ?_
  refine wl_p (fun _ => o_move rfl) ?_
  refine wl_cvS Tryz.underlying9 Tryz.underlying39 Tryz.underlying5 rfl (by omega) ?_
  rintro A6 c6 w6 f6 i6 i6_1 b6
  have s6 := b6.size
  replace hw := hw.trans (b6.mono hw.size)
  replace f4 := f4.u b6
  refine wl_p (fun _ => o_move rfl) ?_
  refine wl_cvS Tryz.underlying9 Tryz.underlying39 Tryz.underlying5 rfl (by omega) ?_
  rintro A8 c8 w8 f8 i8 i8_1 b8
  have s8 := b8.size
  replace hw := hw.trans (b8.mono hw.size)
  replace f4 := f4.u b8
  replace f6 := f6.u b8
  refine wl_p (fun _ => (o_bldOp012 rfl rfl rfl)) ?_
  refine wl_stOpB rfl f4 rfl ?_
  rintro w_1 f g e
  have s := g.size
  replace hw := hw.trans (below_of_grownBy g.g hw.size (by omega))
  replace f6 := f6.y g (by decide)
  replace f8 := f8.y g (by decide)
  clear f4
  refine wl_nil ?_
  refine ret_cell rfl rfl Tryz.isAgg54 Tryz.sizeOf54 f (opC_length ..) ?_
  exact ⟨A6, c6, A8, c8, rfl, f6, by assumption, by assumption, f8, by assumption, by assumption, hw⟩
--@ side RI.nil_
--@ side (by simp [LtI])
--@ side (by simp)
structure StepR (I : List (By × By)) (X Y : List Ky) (wr : Ky) (k : Int) (p q : By) (u : Ky) (I' : List (By × By)) (X' Y' : List Ky) (b : Bool) : Prop where
  h : stepS (I, X, Y) wr (k, p, q, u) = ((I', X', Y'), b)
structure GetR (I : List (By × By)) (X Y : List Ky) (p : By) (v : By) (b : Bool) : Prop where
  h : getS I X Y p = (v, b)
theorem C_opsStepN {A B C K V : Option Addr} {I I' : List (By × By)} {X Y X' Y' : List Ky} {bo : Bool} {p q : By} {n c n2 c2 n3 c3 mk md ck cv : Nat} {k : Int} {u wr : Ky} (w : World) (hr : StepR I X Y wr k p q u I' X' Y' bo) (hA : RI w A I) (hB : RKs w B X) (hC : RKs w C Y) (hK : Rd w K p) (hV : Rd w V q) (hn : n = I.length) (hn2 : n2 = X.length) (hn3 : n3 = Y.length) (hmk : mk = p.length) (hmd : md = q.length) (hl : I.length ≤ 400000) (hl2 : X.length ≤ 400000) (hl3 : Y.length ≤ 400000) (hL : LtI I) (hp : p.length ≤ 4000000) (hq : q.length ≤ 4000000) :
    CallsR Tryz.prog 15 [.agg #[.slice A n c, .slice B n2 c2, .slice C n3 c3], .agg (B8 wr.1).toArray, .agg (opC k K mk ck V md cv u).toArray] w fun v w' => ∃ A' c' B' d' C' e', v = .tuple #[.agg #[.slice A' I'.length c', .slice B' X'.length d', .slice C' Y'.length e'], .bool bo] ∧ OwnI w' w.heap.size w'.heap.size A' c' I' ∧ OwnKs w' w.heap.size w'.heap.size B' d' X' ∧ OwnKs w' w.heap.size w'.heap.size C' e' Y' ∧ Below w.heap.size w w' :=
  C_opsStep (S := (I, X, Y)) w hA hB hC hK hV hr.h hn hn2 hn3 hmk hmd hl hl2 hl3 hL hp hq
theorem C_getN {A B C P : Option Addr} {I : List (By × By)} {X Y : List Ky} {p v : By} {bo : Bool} {n c m d q e z f : Nat} (w : World) (hr : GetR I X Y p v bo) (hA : RI w A I) (hB : RKs w B X) (hC : RKs w C Y) (hP : Rd w P p) (hn : n = I.length) (hm : m = X.length) (hq : q = Y.length) (hz : z = p.length) (hl : I.length ≤ 400000) (hl2 : X.length ≤ 400000) (hl3 : Y.length ≤ 400000) (hL : LtI I) (hp : p.length ≤ 4000000) :
    CallsR Tryz.prog 19 [.agg #[.slice A n c, .slice B m d, .slice C q e], .slice P z f] w fun x w' => ∃ A' c', x = .tuple #[.slice A' v.length c', .bool bo] ∧ OwnH w' w.heap.size w'.heap.size A' c' v ∧ Below w.heap.size w w' :=
  C_get w hA hB hC hP hr.h hn hm hq hz hl hl2 hl3 hL hp
theorem C_lives22 (w : World) : CallsR Tryz.prog 6 [] w fun v w' => v = .bool true ∧ Below w.heap.size w w' := by
  have e1 : StepR [] [kA] [kA] kA 1 [107] [118] z32 [([107], [118])] [kA] [kA] true := ⟨by decide +kernel⟩
  have e2 : StepR [([107], [118])] [kA] [kA] kB 1 [107] [119] z32 [([107], [118])] [kA] [kA] false := ⟨by decide +kernel⟩
  have e3 : StepR [] [kA] [kA] kA 6 [] [] kA [] [kA] [kA] false := ⟨by decide +kernel⟩
  have e4 : GetR [([107], [118])] [kA] [kA] [107] [118] true := ⟨by decide +kernel⟩
  refine callsR Tryz.func6 rfl rfl (by kernel_rfl) rfl ?_
  have hw := Below.refl w.heap.size w
  refine rk_seq ?_
  refine rk_region ?_
  refine wl_p (fun _ => o_assign rfl) ?_
  refine wl_nil ?_
  refine rk_seq ?_
  refine rk_region ?_
  refine wl_call rfl (C_alone _) ?_
  rintro v10 w10 ⟨B10, ⟨C10, ⟨rfl, ⟨f10, ⟨f10_1, b10⟩⟩⟩⟩⟩
  have s10 := b10.size
  replace hw := hw.trans (b10.mono hw.size)
  refine wl_call rfl (C_a _) ?_
  rintro v11 w11 ⟨rfl, b11⟩
  have s11 := b11.size
  replace hw := hw.trans (b11.mono hw.size)
  replace f10_1 := f10_1.u b11
  replace f10 := f10.u b11
  refine wl_call rfl (C_put _ (by simp) (by simp)) ?_
  rintro v12 w12 ⟨K12, ⟨c12, ⟨V12, ⟨d12, ⟨rfl, ⟨f12, ⟨i12, ⟨i12_1, ⟨f12_1, ⟨i12_2, ⟨i12_3, b12⟩⟩⟩⟩⟩⟩⟩⟩⟩⟩⟩
  have s12 := b12.size
  replace hw := hw.trans (b12.mono hw.size)
  replace f10 := f10.u b12
  replace f10_1 := f10_1.u b12
  refine wl_call rfl (C_opsStepN _ e1 (RI.nil_) f10.to_RKs f10_1.to_RKs f12.to_Rd f12_1.to_Rd (by rfl) (by rfl) (by rfl) rfl rfl (by simp) (by simp) (by simp) (by simp [LtI]) (by simp) (by simp)) ?_
  rintro v13 w13 ⟨A13, ⟨c13, ⟨B13, ⟨d13, ⟨C13, ⟨e13, ⟨rfl, ⟨f13, ⟨f13_1, ⟨f13_2, b13⟩⟩⟩⟩⟩⟩⟩⟩⟩⟩
  have qf13 := f13.cap
  have qf13_1 := f13_1.cap
  have qf13_2 := f13_2.cap
  have s13 := b13.size
  replace hw := hw.trans (b13.mono hw.size)
  replace f10_1 := f10_1.u b13
  replace f10 := f10.u b13
  replace f12_1 := f12_1.u b13
  replace f12 := f12.u b13
  refine wl_p (fun _ => o_move rfl) ?_
  refine wl_p (fun _ => o_ext20 rfl) ?_
  refine wl_p (fun _ => o_ext21 rfl) ?_
  refine wl_allocg [_, _, _] Tryz.zeroValue31 (by rfl) ?_
  rintro g1 w1 f1 b1 i1 i1_1
  have s1 := b1.size
  replace hw := hw.trans (b1.mono hw.size)
  replace f12 := f12.u b1
  replace f12_1 := f12_1.u b1
  replace f10 := f10.u b1
  replace f10_1 := f10_1.u b1
  replace f13_2 := f13_2.u b1
  replace f13_1 := f13_1.u b1
  replace f13 := f13.u b1
  refine wl_storega Tryz.sizeOf31 rfl rfl (by rfl) (oneCell_of (by rfl)) f1 (by rfl) ?_
  rintro w_1 f g e
  have s := g.size
  replace hw := hw.trans (below_of_grownBy g.g hw.size (by omega))
  replace f13 := f13.y g (by decide)
  replace f13_1 := f13_1.y g (by decide)
  replace f13_2 := f13_2.y g (by decide)
  replace f10_1 := f10_1.y g (by decide)
  replace f10 := f10.y g (by decide)
  replace f12_1 := f12_1.y g (by decide)
  replace f12 := f12.y g (by decide)
  clear f1
  refine wl_p (fun _ => o_assign rfl) ?_
  refine wl_nil ?_
  refine rk_seq ?_
  refine rk_drawo (id := 2) (none) [0, 0, 2, 7, 8, 16, 16, 0, 191, 511] [0, 0, 2, 7, 15, 31, 31, 0, 191, 511] 398 134 [0] [(.s, 0), (.f 1 398 134, 9)] (by kernel_rfl) (by kernel_rfl) (by kernel_rfl) (by kernel_rfl) (by kernel_rfl) ?_
  dsimp only [inOrder, nthOp]
  replace hw := hw.drew
  replace f12 := f12.d
  replace f12_1 := f12_1.d
  replace f10 := f10.d
  replace f10_1 := f10_1.d
  replace f13_2 := f13_2.d
  replace f13_1 := f13_1.d
  replace f13 := f13.d
  replace f := f.d
  refine wl_s (fun _ hk => (o_loadag Tryz.isAgg31 Tryz.sizeOf31 rfl (f.u (below_of_grown_none hk)) (by rfl))) ?_
  have hw1 := Below.refl w_1.drew.heap.size w_1.drew
  have hg1 := f.lt
  refine wl_forkf (m := 1) (L := 398) (C := 134) (n := 9) (k1 := 1) (k2 := 7) (fun fb fr w' => ∃ g3 A' c' B' d' C' e', fr = [(3, .pointer (some ⟨g3, 0, none⟩)), (21, .agg #[.slice A' [(([107] : By), ([118] : By))].length c', .slice B' [kA].length d', .slice C' [kA].length e']), (22, .bool false)] ++ fb ∧ Blk w' g3 31 [.slice none 0 0, .slice none 0 0, .slice none 0 0] ∧ g1 < g3 ∧ Below w_1.drew.heap.size w_1.drew w') [0, 0, 2, 7, 8, 16, 16, 0, 191, 511] [0, 0, 2, 7, 15, 31, 31, 0, 191, 511] [1] [7, 1, 2, 3, 4, 5, 6, 8, 9] [8, 9] [(.f 3 398 134, 8)] [(.c, 1), (.c, 2), (.l, 3), (.p, 4), (.p, 5), (.p, 6), (.l, 8), (.p, 9)] [(.l, 8), (.p, 9)] (by kernel_rfl) (by kernel_rfl) (by kernel_rfl) (by kernel_rfl) (by kernel_rfl) ?_ (fun hj => ?_) (fun hj => ?_) <;> dsimp only [inOrder, nthOp]
  · clear hw1
    rintro fr w' ⟨g3, A', c', B', d', C', e', rfl, f3, h3, hw1⟩
    first | refine rk_frame (by simp only [List.cons_append, List.nil_append, List.drop_succ_cons, List.drop_zero]; rfl) ?_ | refine wl_frame (by simp only [List.cons_append, List.nil_append, List.drop_succ_cons, List.drop_zero]; rfl) ?_
    have shw1 := hw1.size
    simp only [drew_size] at shw1
    replace hw := hw.trans (hw1.mono hw.size)
    replace f := f.u hw1
    replace f13 := f13.u hw1
    replace f13_1 := f13_1.u hw1
    replace f13_2 := f13_2.u hw1
    replace f10_1 := f10_1.u hw1
    replace f10 := f10.u hw1
    replace f12_1 := f12_1.u hw1
    replace f12 := f12.u hw1
    refine wl_storega Tryz.sizeOf31 rfl rfl (by rfl) (oneCell_of (by rfl)) f3 (by rfl) ?_
    rintro w_2 f_1 g_1 e_1
    have s_1 := g_1.size
    replace hw := hw.trans (below_of_grownBy g_1.g hw.size (by omega))
    replace f12 := f12.y g_1 (by decide)
    replace f12_1 := f12_1.y g_1 (by decide)
    replace f10 := f10.y g_1 (by decide)
    replace f10_1 := f10_1.y g_1 (by decide)
    replace f13_2 := f13_2.y g_1 (by decide)
    replace f13_1 := f13_1.y g_1 (by decide)
    replace f13 := f13.y g_1 (by decide)
    replace f := f.k g_1.g (ap_some (by omega))
    clear f3
    refine wl_p (fun _ => o_assign rfl) ?_
    refine wl_nild ?_
    refine rk_seq ?_
    refine rk_region ?_
    refine wl_call rfl (C_alone _) ?_
    rintro v24 w24 ⟨B24, ⟨C24, ⟨rfl, ⟨f24, ⟨f24_1, b24⟩⟩⟩⟩⟩
    have s24 := b24.size
    replace hw := hw.trans (b24.mono hw.size)
    replace f := f.u b24
    replace f13 := f13.u b24
    replace f13_1 := f13_1.u b24
    replace f13_2 := f13_2.u b24
    replace f10_1 := f10_1.u b24
    replace f10 := f10.u b24
    replace f12_1 := f12_1.u b24
    replace f12 := f12.u b24
    replace f_1 := f_1.u b24
    refine wl_call rfl (C_a _) ?_
    rintro v25 w25 ⟨rfl, b25⟩
    have s25 := b25.size
    replace hw := hw.trans (b25.mono hw.size)
    replace f_1 := f_1.u b25
    replace f12 := f12.u b25
    replace f12_1 := f12_1.u b25
    replace f10 := f10.u b25
    replace f10_1 := f10_1.u b25
    replace f13_2 := f13_2.u b25
    replace f13_1 := f13_1.u b25
    replace f13 := f13.u b25
    replace f := f.u b25
    replace f24_1 := f24_1.u b25
    replace f24 := f24.u b25
    refine wl_call rfl (C_a _) ?_
    rintro v26 w26 ⟨rfl, b26⟩
    have s26 := b26.size
    replace hw := hw.trans (b26.mono hw.size)
    replace f24 := f24.u b26
    replace f24_1 := f24_1.u b26
    replace f := f.u b26
    replace f13 := f13.u b26
    replace f13_1 := f13_1.u b26
    replace f13_2 := f13_2.u b26
    replace f10_1 := f10_1.u b26
    replace f10 := f10.u b26
    replace f12_1 := f12_1.u b26
    replace f12 := f12.u b26
    replace f_1 := f_1.u b26
    refine wl_p (fun _ => (o_bldOp03 rfl rfl)) ?_
    refine wl_call rfl (C_opsStepN _ e3 (RI.nil_) f24.to_RKs f24_1.to_RKs (Rd.nil_) (Rd.nil_) (by rfl) (by rfl) (by rfl) (by rfl) (by rfl) (by simp) (by simp) (by simp) (by simp [LtI]) (by simp) (by simp)) ?_
    rintro v28 w28 ⟨A28, ⟨c28, ⟨B28, ⟨d28, ⟨C28, ⟨e28, ⟨rfl, ⟨f28, ⟨f28_1, ⟨f28_2, b28⟩⟩⟩⟩⟩⟩⟩⟩⟩⟩
    have qf28 := f28.cap
    have qf28_1 := f28_1.cap
    have qf28_2 := f28_2.cap
    have s28 := b28.size
    replace hw := hw.trans (b28.mono hw.size)
    replace f_1 := f_1.u b28
    replace f12 := f12.u b28
    replace f12_1 := f12_1.u b28
    replace f10 := f10.u b28
    replace f10_1 := f10_1.u b28
    replace f13_2 := f13_2.u b28
    replace f13_1 := f13_1.u b28
    replace f13 := f13.u b28
    replace f := f.u b28
    replace f24_1 := f24_1.u b28
    replace f24 := f24.u b28
    refine wl_p (fun _ => o_move rfl) ?_
    refine wl_p (fun _ => o_ext20 rfl) ?_
    refine wl_p (fun _ => o_ext21 rfl) ?_
    refine wl_allocg [_, _, _] Tryz.zeroValue31 (by rfl) ?_
    rintro g5 w5 f5 b5 i5 i5_1
    have s5 := b5.size
    replace hw := hw.trans (b5.mono hw.size)
    replace f24 := f24.u b5
    replace f24_1 := f24_1.u b5
    replace f := f.u b5
    replace f13 := f13.u b5
    replace f13_1 := f13_1.u b5
    replace f13_2 := f13_2.u b5
    replace f10_1 := f10_1.u b5
    replace f10 := f10.u b5
    replace f12_1 := f12_1.u b5
    replace f12 := f12.u b5
    replace f_1 := f_1.u b5
    replace f28_2 := f28_2.u b5
    replace f28_1 := f28_1.u b5
    replace f28 := f28.u b5
    refine wl_storega Tryz.sizeOf31 rfl rfl (by rfl) (oneCell_of (by rfl)) f5 (by rfl) ?_
    rintro w_3 f_2 g_2 e_2
    have s_2 := g_2.size
    replace hw := hw.trans (below_of_grownBy g_2.g hw.size (by omega))
    replace f28 := f28.y g_2 (by decide)
    replace f28_1 := f28_1.y g_2 (by decide)
    replace f28_2 := f28_2.y g_2 (by decide)
    replace f12 := f12.y g_2 (by decide)
    replace f12_1 := f12_1.y g_2 (by decide)
    replace f10 := f10.y g_2 (by decide)
    replace f10_1 := f10_1.y g_2 (by decide)
    replace f13_2 := f13_2.y g_2 (by decide)
    replace f13_1 := f13_1.y g_2 (by decide)
    replace f13 := f13.y g_2 (by decide)
    replace f := f.k g_2.g (ap_some (by omega))
    replace f24_1 := f24_1.y g_2 (by decide)
    replace f24 := f24.y g_2 (by decide)
    clear f_1
    clear f5
    refine wl_p (fun _ => o_assign rfl) ?_
    refine wl_nil ?_
    refine rk_seq ?_
    refine rk_region ?_
    refine wl_r (o_loadag Tryz.isAgg31 Tryz.sizeOf31 rfl f (by rfl)) ?_
    refine wl_litC [107] Tryz.u8 Tryz.sizeOf5 Tryz.zeroValue5 (by rfl) rfl rfl (by rfl) (by rfl) (by rfl) ?_
    rintro A33 w33 f33 b33
    have s33 := b33.size
    replace hw := hw.trans (b33.mono hw.size)
    replace f24 := f24.u b33
    replace f24_1 := f24_1.u b33
    replace f := f.u b33
    replace f13 := f13.u b33
    replace f13_1 := f13_1.u b33
    replace f13_2 := f13_2.u b33
    replace f10_1 := f10_1.u b33
    replace f10 := f10.u b33
    replace f12_1 := f12_1.u b33
    replace f12 := f12.u b33
    replace f28_2 := f28_2.u b33
    replace f28_1 := f28_1.u b33
    replace f28 := f28.u b33
    replace f_2 := f_2.u b33
    refine wl_call rfl (C_getN _ e4 f13.to_RI f13_1.to_RKs f13_2.to_RKs f33.to_Rd rfl rfl rfl (by rfl) (by simp) (by simp) (by simp) (by simp [LtI]) (by simp)) ?_
    rintro v35 w35 ⟨A35, ⟨c35, ⟨rfl, ⟨f35, b35⟩⟩⟩⟩
    have qf35 := f35.cap
    have s35 := b35.size
    replace hw := hw.trans (b35.mono hw.size)
    replace f_2 := f_2.u b35
    replace f28 := f28.u b35
    replace f28_1 := f28_1.u b35
    replace f28_2 := f28_2.u b35
    replace f12 := f12.u b35
    replace f12_1 := f12_1.u b35
    replace f10 := f10.u b35
    replace f10_1 := f10_1.u b35
    replace f13_2 := f13_2.u b35
    replace f13_1 := f13_1.u b35
    replace f13 := f13.u b35
    replace f := f.u b35
    replace f24_1 := f24_1.u b35
    replace f24 := f24.u b35
    replace f33 := f33.u b35
    refine wl_p (fun _ => o_move rfl) ?_
    refine wl_p (fun _ => o_ext20 rfl) ?_
    refine wl_p (fun _ => o_ext21 rfl) ?_
    refine wl_p (fun _ => o_assign rfl) ?_
    refine wl_p (fun _ => o_assign rfl) ?_
    refine wl_nil ?_
    refine rk_seq ?_
    refine rk_region ?_
    refine wl_p (fun _ => o_move rfl) ?_
    refine wl_p (fun _ => o_move rfl) ?_
    refine wl_p (fun _ => o_move rfl) ?_
    refine wl_p (fun _ => o_not rfl) ?_
    refine wl_p (fun _ => o_pick_t rfl rfl) ?_
    refine wl_p (fun _ => o_move rfl) ?_
    refine wl_p (fun _ => o_move rfl) ?_
    refine wl_p (fun _ => o_not rfl) ?_
    refine wl_p (fun _ => o_pick_t rfl rfl) ?_
    refine wl_p (fun _ => o_move rfl) ?_
    refine wl_p (fun _ => o_move rfl) ?_
    refine wl_p (fun _ => o_pick_t rfl rfl) ?_
    refine wl_p (fun _ => o_move rfl) ?_
    refine wl_p (fun _ => o_move rfl) ?_
    refine wl_r (o_strU Tryz.underlying39 Tryz.underlying5 Tryz.underlying9 rfl f35.to_Rd (Below.refl _ _) rfl) ?_
    refine wl_p (fun _ => o_seq rfl rfl) ?_
    refine wl_p (fun _ => o_pick_t rfl rfl) ?_
    refine wl_p (fun _ => o_assign rfl) ?_
    refine wl_nil ?_
    refine ret1 rfl rfl ?_
    exact ⟨rfl, hw⟩
  · refine wl_call rfl (C_b _) ?_ (hq := .inr fun _ _ h => grown_of_below h.2 _)
    rintro v18 w18 ⟨rfl, b18⟩
    simp only [drew_size] at b18
    have s18 := b18.size
    simp only [drew_size] at s18
    replace hw := hw.trans (b18.mono hw.size)
    replace hw1 := hw1.trans (b18.mono hw1.size)
    replace f := f.u b18
    replace f13 := f13.u b18
    replace f13_1 := f13_1.u b18
    replace f13_2 := f13_2.u b18
    replace f10_1 := f10_1.u b18
    replace f10 := f10.u b18
    replace f12_1 := f12_1.u b18
    replace f12 := f12.u b18
    refine wl_fork2j (m := 3) (L := 398) (C := 134) (n := 8) (k1 := 2) (k2 := 7) _ [0, 0, 2, 7, 8, 16, 16, 0, 191, 511] [0, 0, 2, 7, 15, 31, 31, 0, 191, 511] [2] [7, 2, 3, 4, 5, 6, 8, 9] [8, 9] [(.f 7 398 134, 7)] [(.c, 2), (.l, 3), (.p, 4), (.p, 5), (.p, 6), (.l, 8), (.p, 9)] [(.l, 8), (.p, 9)] (by kernel_rfl) (by kernel_rfl) (by kernel_rfl) (by kernel_rfl) (by kernel_rfl) hj (fun hj => ?_) (fun hj => ?_) <;> dsimp only [inOrder, nthOp]
    · refine wl_call rfl (C_put _ (by simp) (by simp)) ?_ (hq := .inr fun _ _ h => grown_of_below h.choose_spec.choose_spec.choose_spec.choose_spec.2.2.2.2.2.2.2 _)
      rintro v19 w19 ⟨K19, ⟨c19, ⟨V19, ⟨d19, ⟨rfl, ⟨f19, ⟨i19, ⟨i19_1, ⟨f19_1, ⟨i19_2, ⟨i19_3, b19⟩⟩⟩⟩⟩⟩⟩⟩⟩⟩⟩
      have s19 := b19.size
      replace hw := hw.trans (b19.mono hw.size)
      replace hw1 := hw1.trans (b19.mono hw1.size)
      replace f12 := f12.u b19
      replace f12_1 := f12_1.u b19
      replace f10 := f10.u b19
      replace f10_1 := f10_1.u b19
      replace f13_2 := f13_2.u b19
      replace f13_1 := f13_1.u b19
      replace f13 := f13.u b19
      replace f := f.u b19
      refine wl_fork2j (m := 7) (L := 398) (C := 134) (n := 7) (k1 := 3) (k2 := 7) _ [0, 0, 2, 7, 8, 16, 16, 0, 191, 511] [0, 0, 2, 7, 15, 31, 31, 0, 191, 511] [3, 4, 5, 6, 7, 8, 9] [7, 3, 4, 5, 6, 8, 9] [8, 9] [(.p, 4), (.p, 5), (.p, 6), (.c, 7), (.l, 8), (.p, 9)] [(.l, 3), (.p, 4), (.p, 5), (.p, 6), (.l, 8), (.p, 9)] [(.l, 8), (.p, 9)] (by kernel_rfl) (by kernel_rfl) (by kernel_rfl) (by kernel_rfl) (by kernel_rfl) hj (fun hj => ?_) (fun hj => ?_) <;> dsimp only [inOrder, nthOp]
      · refine wl_call rfl (C_opsStepN _ e2 f13.to_RI f13_1.to_RKs f13_2.to_RKs f19.to_Rd f19_1.to_Rd rfl rfl rfl rfl rfl (by simp) (by simp) (by simp) (by simp [LtI]) (by simp) (by simp)) ?_
        rintro v20 w20 ⟨A20, ⟨c20, ⟨B20, ⟨d20, ⟨C20, ⟨e20, ⟨rfl, ⟨f20, ⟨f20_1, ⟨f20_2, b20⟩⟩⟩⟩⟩⟩⟩⟩⟩⟩
        have qf20 := f20.cap
        have qf20_1 := f20_1.cap
        have qf20_2 := f20_2.cap
        have s20 := b20.size
        replace hw := hw.trans (b20.mono hw.size)
        replace hw1 := hw1.trans (b20.mono hw1.size)
        replace f := f.u b20
        replace f13 := f13.u b20
        replace f13_1 := f13_1.u b20
        replace f13_2 := f13_2.u b20
        replace f10_1 := f10_1.u b20
        replace f10 := f10.u b20
        replace f12_1 := f12_1.u b20
        replace f12 := f12.u b20
        replace f19_1 := f19_1.u b20
        replace f19 := f19.u b20
        refine wl_p (fun _ => o_move rfl) ?_
        refine wl_p (fun _ => o_ext20 rfl) ?_
        refine wl_p (fun _ => o_ext21 rfl) ?_
        refine wl_allocg [_, _, _] Tryz.zeroValue31 (by rfl) ?_
        rintro g3 w3 f3 b3 i3 i3_1
        have s3 := b3.size
        replace hw := hw.trans (b3.mono hw.size)
        replace hw1 := hw1.trans (b3.mono hw1.size)
        replace f19 := f19.u b3
        replace f19_1 := f19_1.u b3
        replace f12 := f12.u b3
        replace f12_1 := f12_1.u b3
        replace f10 := f10.u b3
        replace f10_1 := f10_1.u b3
        replace f13_2 := f13_2.u b3
        replace f13_1 := f13_1.u b3
        replace f13 := f13.u b3
        replace f := f.u b3
        replace f20_2 := f20_2.u b3
        replace f20_1 := f20_1.u b3
        replace f20 := f20.u b3
        exact wl_tof hj (Fr.le_of (by kernel_rfl) (by kernel_rfl) (by repeat' constructor)) ⟨g3, _, _, _, _, _, _, rfl, f3, by omega, hw1⟩
      · refine wl_allocg [_, _, _] Tryz.zeroValue31 (by rfl) ?_
        rintro g3 w3 f3 b3 i3 i3_1
        have s3 := b3.size
        replace hw := hw.trans (b3.mono hw.size)
        replace hw1 := hw1.trans (b3.mono hw1.size)
        replace f := f.u b3
        replace f13 := f13.u b3
        replace f13_1 := f13_1.u b3
        replace f13_2 := f13_2.u b3
        replace f10_1 := f10_1.u b3
        replace f10 := f10.u b3
        replace f12_1 := f12_1.u b3
        replace f12 := f12.u b3
        replace f19_1 := f19_1.u b3
        replace f19 := f19.u b3
        refine wl_call rfl (C_opsStepN _ e2 f13.to_RI f13_1.to_RKs f13_2.to_RKs f19.to_Rd f19_1.to_Rd rfl rfl rfl rfl rfl (by simp) (by simp) (by simp) (by simp [LtI]) (by simp) (by simp)) ?_
        rintro v20 w20 ⟨A20, ⟨c20, ⟨B20, ⟨d20, ⟨C20, ⟨e20, ⟨rfl, ⟨f20, ⟨f20_1, ⟨f20_2, b20⟩⟩⟩⟩⟩⟩⟩⟩⟩⟩
        have qf20 := f20.cap
        have qf20_1 := f20_1.cap
        have qf20_2 := f20_2.cap
        have s20 := b20.size
        replace hw := hw.trans (b20.mono hw.size)
        replace hw1 := hw1.trans (b20.mono hw1.size)
        replace f19 := f19.u b20
        replace f19_1 := f19_1.u b20
        replace f12 := f12.u b20
        replace f12_1 := f12_1.u b20
        replace f10 := f10.u b20
        replace f10_1 := f10_1.u b20
        replace f13_2 := f13_2.u b20
        replace f13_1 := f13_1.u b20
        replace f13 := f13.u b20
        replace f := f.u b20
        replace f3 := f3.u b20
        refine wl_p (fun _ => o_move rfl) ?_
        refine wl_p (fun _ => o_ext20 rfl) ?_
        refine wl_p (fun _ => o_ext21 rfl) ?_
        exact wl_tof hj (Fr.le_of (by kernel_rfl) (by kernel_rfl) (by repeat' constructor)) ⟨g3, _, _, _, _, _, _, rfl, f3, by omega, hw1⟩
    · refine wl_allocg [_, _, _] Tryz.zeroValue31 (by rfl) ?_
      rintro g3 w3 f3 b3 i3 i3_1
      have s3 := b3.size
      replace hw := hw.trans (b3.mono hw.size)
      replace hw1 := hw1.trans (b3.mono hw1.size)
      replace f12 := f12.u b3
      replace f12_1 := f12_1.u b3
      replace f10 := f10.u b3
      replace f10_1 := f10_1.u b3
      replace f13_2 := f13_2.u b3
      replace f13_1 := f13_1.u b3
      replace f13 := f13.u b3
      replace f := f.u b3
      refine wl_call rfl (C_put _ (by simp) (by simp)) ?_ (hq := .inr fun _ _ h => grown_of_below h.choose_spec.choose_spec.choose_spec.choose_spec.2.2.2.2.2.2.2 _)
      rintro v19 w19 ⟨K19, ⟨c19, ⟨V19, ⟨d19, ⟨rfl, ⟨f19, ⟨i19, ⟨i19_1, ⟨f19_1, ⟨i19_2, ⟨i19_3, b19⟩⟩⟩⟩⟩⟩⟩⟩⟩⟩⟩
      have s19 := b19.size
      replace hw := hw.trans (b19.mono hw.size)
      replace hw1 := hw1.trans (b19.mono hw1.size)
      replace f := f.u b19
      replace f13 := f13.u b19
      replace f13_1 := f13_1.u b19
      replace f13_2 := f13_2.u b19
      replace f10_1 := f10_1.u b19
      replace f10 := f10.u b19
      replace f12_1 := f12_1.u b19
      replace f12 := f12.u b19
      replace f3 := f3.u b19
      refine wl_call rfl (C_opsStepN _ e2 f13.to_RI f13_1.to_RKs f13_2.to_RKs f19.to_Rd f19_1.to_Rd rfl rfl rfl rfl rfl (by simp) (by simp) (by simp) (by simp [LtI]) (by simp) (by simp)) ?_
      rintro v20 w20 ⟨A20, ⟨c20, ⟨B20, ⟨d20, ⟨C20, ⟨e20, ⟨rfl, ⟨f20, ⟨f20_1, ⟨f20_2, b20⟩⟩⟩⟩⟩⟩⟩⟩⟩⟩
      have qf20 := f20.cap
      have qf20_1 := f20_1.cap
      have qf20_2 := f20_2.cap
      have s20 := b20.size
      replace hw := hw.trans (b20.mono hw.size)
      replace hw1 := hw1.trans (b20.mono hw1.size)
      replace f3 := f3.u b20
      replace f12 := f12.u b20
      replace f12_1 := f12_1.u b20
      replace f10 := f10.u b20
      replace f10_1 := f10_1.u b20
      replace f13_2 := f13_2.u b20
      replace f13_1 := f13_1.u b20
      replace f13 := f13.u b20
      replace f := f.u b20
      replace f19_1 := f19_1.u b20
      replace f19 := f19.u b20
      refine wl_p (fun _ => o_move rfl) ?_
      refine wl_p (fun _ => o_ext20 rfl) ?_
      refine wl_p (fun _ => o_ext21 rfl) ?_
      exact wl_tof hj (Fr.le_of (by kernel_rfl) (by kernel_rfl) (by repeat' constructor)) ⟨g3, _, _, _, _, _, _, rfl, f3, by omega, hw1⟩
  · refine wl_allocg [_, _, _] Tryz.zeroValue31 (by rfl) ?_
    rintro g3 w3 f3 b3 i3 i3_1
    simp only [drew_size] at b3
    simp only [drew_size] at i3
    have s3 := b3.size
    simp only [drew_size] at s3
    replace hw := hw.trans (b3.mono hw.size)
    replace hw1 := hw1.trans (b3.mono hw1.size)
    replace f := f.u b3
    replace f13 := f13.u b3
    replace f13_1 := f13_1.u b3
    replace f13_2 := f13_2.u b3
    replace f10_1 := f10_1.u b3
    replace f10 := f10.u b3
    replace f12_1 := f12_1.u b3
    replace f12 := f12.u b3
    refine wl_call rfl (C_b _) ?_ (hq := .inr fun _ _ h => grown_of_below h.2 _)
    rintro v18 w18 ⟨rfl, b18⟩
    have s18 := b18.size
    replace hw := hw.trans (b18.mono hw.size)
    replace hw1 := hw1.trans (b18.mono hw1.size)
    replace f12 := f12.u b18
    replace f12_1 := f12_1.u b18
    replace f10 := f10.u b18
    replace f10_1 := f10_1.u b18
    replace f13_2 := f13_2.u b18
    replace f13_1 := f13_1.u b18
    replace f13 := f13.u b18
    replace f := f.u b18
    replace f3 := f3.u b18
    refine wl_call rfl (C_put _ (by simp) (by simp)) ?_ (hq := .inr fun _ _ h => grown_of_below h.choose_spec.choose_spec.choose_spec.choose_spec.2.2.2.2.2.2.2 _)
    rintro v19 w19 ⟨K19, ⟨c19, ⟨V19, ⟨d19, ⟨rfl, ⟨f19, ⟨i19, ⟨i19_1, ⟨f19_1, ⟨i19_2, ⟨i19_3, b19⟩⟩⟩⟩⟩⟩⟩⟩⟩⟩⟩
    have s19 := b19.size
    replace hw := hw.trans (b19.mono hw.size)
    replace hw1 := hw1.trans (b19.mono hw1.size)
    replace f3 := f3.u b19
    replace f := f.u b19
    replace f13 := f13.u b19
    replace f13_1 := f13_1.u b19
    replace f13_2 := f13_2.u b19
    replace f10_1 := f10_1.u b19
    replace f10 := f10.u b19
    replace f12_1 := f12_1.u b19
    replace f12 := f12.u b19
    refine wl_call rfl (C_opsStepN _ e2 f13.to_RI f13_1.to_RKs f13_2.to_RKs f19.to_Rd f19_1.to_Rd rfl rfl rfl rfl rfl (by simp) (by simp) (by simp) (by simp [LtI]) (by simp) (by simp)) ?_
    rintro v20 w20 ⟨A20, ⟨c20, ⟨B20, ⟨d20, ⟨C20, ⟨e20, ⟨rfl, ⟨f20, ⟨f20_1, ⟨f20_2, b20⟩⟩⟩⟩⟩⟩⟩⟩⟩⟩
    have qf20 := f20.cap
    have qf20_1 := f20_1.cap
    have qf20_2 := f20_2.cap
    have s20 := b20.size
    replace hw := hw.trans (b20.mono hw.size)
    replace hw1 := hw1.trans (b20.mono hw1.size)
    replace f12 := f12.u b20
    replace f12_1 := f12_1.u b20
    replace f10 := f10.u b20
    replace f10_1 := f10_1.u b20
    replace f13_2 := f13_2.u b20
    replace f13_1 := f13_1.u b20
    replace f13 := f13.u b20
    replace f := f.u b20
    replace f3 := f3.u b20
    replace f19_1 := f19_1.u b20
    replace f19 := f19.u b20
    refine wl_p (fun _ => o_move rfl) ?_
    refine wl_p (fun _ => o_ext20 rfl) ?_
    refine wl_p (fun _ => o_ext21 rfl) ?_
    exact wl_tof hj (Fr.le_of (by kernel_rfl) (by kernel_rfl) (by repeat' constructor)) ⟨g3, _, _, _, _, _, _, rfl, f3, by omega, hw1⟩
end Go.Proofs.YtahkeoegbjopfaaGreat
/-
  Walks of package ops: Check.
-/
namespace Go.Proofs.YtahkeoegbjopfaaGreat
set_option maxRecDepth 100000
open Go.RowKit
end Go.Proofs.YtahkeoegbjopfaaGreat
/-
  Walks of package ops: the bytes of ops.
-/
namespace Go.Proofs.YtahkeoegbjopfaaGreat
set_option maxRecDepth 100000
open Go.RowKit
end Go.Proofs.YtahkeoegbjopfaaGreat
/-
  Bytes compared as strings.
-/
namespace Go.Proofs.YtahkeoegbjopfaaGreat
set_option maxRecDepth 100000
open Go.RowKit
end Go.Proofs.YtahkeoegbjopfaaGreat
/-
  Walks of package ops: whether ops and states are the same.
-/
namespace Go.Proofs.YtahkeoegbjopfaaGreat
set_option maxRecDepth 100000
open Go.RowKit
end Go.Proofs.YtahkeoegbjopfaaGreat
/-
  The statement OpsNames.
-/
namespace Go.Proofs.YtahkeoegbjopfaaGreat
set_option maxRecDepth 100000
open Go.RowKit
structure BytesR (L : List Opn) (b : By) (e : Nat) : Prop where
  h : bytesO L = (b, e)
structure ReadR (b : By) (L : List Opn) (e : Nat) : Prop where
  h : readO b = (L, e)
theorem C_opsReadN {A : Option Addr} {b : By} {L : List Opn} {e n c : Nat} (w : World) (hr : ReadR b L e) (hA : Rd w A b) (hn : n = b.length) (hl : b.length ≤ 4000000) :
    CallsR Tryz.prog 13 [.slice A n c] w fun v w' => ∃ A' c', v = .tuple #[.slice A' L.length c', .int .i64 (e : Int)] ∧ OwnO w' w.heap.size w'.heap.size A' c' L ∧ Below w.heap.size w w' :=
  C_opsRead w hA hr.h hn hl
end Go.Proofs.YtahkeoegbjopfaaGreat
/-
  Walks of package ops: Fold, Apply.
-/
namespace Go.Proofs.YtahkeoegbjopfaaGreat
set_option maxRecDepth 100000
open Go.RowKit
/-- Ops of a writer, done one by one to a valid state. -/
def opsS (S : Stt) (u : Ky) (L : List Opn) : Stt := L.foldl (fun T o => (stS T u o).1) S
def blockS (S : Stt) (b : Bk) : Stt := opsS S b.1 (readO b.2).1
/-- The state after blocks. -/
def foldS (S : Stt) (L : List Bk) : Stt := L.foldl blockS S
abbrev OkT (S : Stt) : Prop := OkSt S.1 S.2.1 S.2.2
theorem stS_step {S : Stt} (h : OkT S) (u : Ky) (o : Opn) : stS S u o = stepS S u o := by unfold stepS; rw [if_pos h]
theorem stS_ok {S : Stt} (h : OkT S) (u : Ky) (o : Opn) : OkT (stS S u o).1 := by rw [stS_step h]; exact (stepS_spec h).1
theorem opsS_ok {u : Ky} : ∀ (L : List Opn) {S : Stt}, OkT S → OkT (opsS S u L)
  | [], _, h => h
  | o :: L, S, h => opsS_ok L (stS_ok h u o)
theorem blockS_ok {S : Stt} (h : OkT S) (b : Bk) : OkT (blockS S b) := opsS_ok _ h
theorem foldS_ok : ∀ (L : List Bk) {S : Stt}, OkT S → OkT (foldS S L)
  | [], _, h => h
  | b :: L, S, h => foldS_ok L (blockS_ok h b)
theorem opsS_snoc (S : Stt) (u : Ky) (L : List Opn) (o : Opn) : opsS S u (L ++ [o]) = (stS (opsS S u L) u o).1 := by simp [opsS]
theorem foldS_snoc (S : Stt) (L : List Bk) (b : Bk) : foldS S (L ++ [b]) = blockS (foldS S L) b := by simp [foldS]
theorem foldS_append (S : Stt) (L M : List Bk) : foldS S (L ++ M) = foldS (foldS S L) M := by simp [foldS]
theorem readO_nil {b : By} {L : List Opn} {e : Nat} (h : readO b = (L, e)) (he : e ≠ 0) : L = [] := by
  unfold readO at h
  repeat' split at h
  all_goals first | (injection h with h1 h2; exact h1.symm) | (injection h with h1 h2; exact absurd h2.symm he)
theorem readO_ok (b : By) : ∀ o ∈ (readO b).1, o.2.1.length ≤ 4000000 ∧ o.2.2.1.length ≤ 4000000 := by
  obtain ⟨⟨L, e⟩, h⟩ : ∃ r, readO b = r := ⟨_, rfl⟩
  rw [h]
  by_cases he : e = 0
  · subst he
    obtain ⟨_, h2, _⟩ := bytesO_ok (readO_back h)
    intro o ho
    have h4 := h2 o ho
    unfold okO okOp at h4
    simp only [Bool.and_eq_true] at h4
    obtain ⟨h5, h6⟩ := goodS_le h4.2
    omega
  · rw [readO_nil h he]
    intro o ho
    cases ho
theorem readO_len (b : By) : (readO b).1.length ≤ 8 := by
  obtain ⟨⟨L, e⟩, h⟩ : ∃ r, readO b = r := ⟨_, rfl⟩
  rw [h]
  by_cases he : e = 0
  · subst he
    exact (bytesO_ok (readO_back h)).1
  · rw [readO_nil h he]
    exact Nat.zero_le _
theorem OwnO.some_ {w : World} {lo hi cp : Nat} {A : Option Addr} {L : List Opn} (h : OwnO w lo hi A cp L) (hl : 0 < L.length) : A = some (A.getD ⟨0, 0, none⟩) := RO.some_ h.to_RO hl
theorem gOp_T {w : World} {cs : List Value} {o : Opn} (h : gOp.T w cs o) : ∃ K c V d, cs = opC o.1 K o.2.1.length c V o.2.2.1.length d o.2.2.2 ∧ RdT w K o.2.1 ∧ RdT w V o.2.2.1 ∧ o.2.1.length ≤ c ∧ c ≤ maxLen ∧ o.2.2.1.length ≤ d ∧ d ≤ maxLen ∧ (Lit.int .i64 o.1).wf = true := by
  obtain ⟨_, _, rfl, ⟨rfl, hk⟩, _, _, rfl, ⟨K, c, rfl, h1, h2, h3⟩, _, _, rfl, ⟨V, d, rfl, h4, h5, h6⟩, h7⟩ := h
  obtain ⟨rfl⟩ : _ = B8 o.2.2.2.1 := h7
  exact ⟨K, c, V, d, rfl, h1, h4, h2, h3, h5, h6, hk⟩
section
variable {fn : Func} {F : Ending → World → Prop} {N : Nat} {ks : List K} {ops : Array Oper} {tg : Tags} {l : List Oper} {fr : Fr} {w : World} {ty : TypeId} {pos : String} {aft : Array Edge} {gd : Option (Nat × Bool)} {d0 j : Nat} {x : Operand} {A : Option Addr} {L : List Opn}
--@ rule! load l wl_ldOpT
theorem wl_ldOpT (hx : fr.ev x = some (.pointer (some (adr A (j * 35))))) (hr : ROT w A L) (hj : j < L.length)
    (hk : ∀ K c V d, RdT w K L[j].2.1 → RdT w V L[j].2.2.1 → L[j].2.1.length ≤ c → c ≤ maxLen → L[j].2.2.1.length ≤ d → d ≤ maxLen → (Lit.int .i64 L[j].1).wf = true → WL Tryz.prog fn F N ks ops tg.tail l ((d0, .agg (opC L[j].1 K L[j].2.1.length c V L[j].2.2.1.length d L[j].2.2.2).toArray) :: fr) w)
    (ht : tg.reads = true := by rfl) (hg : onG ops fr gd = true := by rfl) (hd : Nat.blt d0 N = true := by rfl) : WL Tryz.prog fn F N ks ops tg (⟨some d0, .load 54 x, ty, pos, aft, gd⟩ :: l) fr w := by
  obtain ⟨xs, h1, _, h2⟩ := hr
  have hc : CellsAt w A (j * 35) (part xs 35 j) := h1.cellsAt hj (show 0 < 35 by decide)
  obtain ⟨K, c, V, d, e, h3, h4, h5, h6, h7, h8, h9⟩ := gOp_T (h2 j hj)
  have e' : part xs 35 j = _ := e
  rw [e'] at hc
  refine wl_r (o_loadn (cs := opC L[j].1 K L[j].2.1.length c V L[j].2.2.1.length d L[j].2.2.2) Tryz.isAgg54 (by rw [opC_length]; exact Tryz.sizeOf54) hx (fun i u hu => ?_)) (hk K c V d h3 h4 h5 h6 h7 h8 h9) ht hg hd
  rw [adr_add]
  exact hc i u hu
end
set_option maxHeartbeats 4000000 in
set_option maxRecDepth 100000 in
theorem K_fold {A B C D : Option Addr} {S : Stt} {L : List Bk} {n c m d q e r s : Nat} (w : World) (hA : RI w A S.1) (hB : RKs w B S.2.1) (hC : RKs w C S.2.2) (hD : RBk w D L) (hn : n = S.1.length) (hm : m = S.2.1.length) (hq : q = S.2.2.length) (hr : r = L.length) (hl : S.1.length ≤ 400000) (hl2 : S.2.1.length ≤ 400000) (hl3 : S.2.2.length ≤ 400000) (hL : LtI S.1) (hl4 : L.length ≤ 40000) (hLB : LtB L) (hok : OkT S) :
    CallsR Tryz.prog 10 [.agg #[.slice A n c, .slice B m d, .slice C q e], .slice D r s] w fun v w' => ∃ A' c' B' d' C' e', v = .agg #[.slice A' (foldS S L).1.length c', .slice B' (foldS S L).2.1.length d', .slice C' (foldS S L).2.2.length e'] ∧ OwnI w' w.heap.size w'.heap.size A' c' (foldS S L).1 ∧ OwnKs w' w.heap.size w'.heap.size B' d' (foldS S L).2.1 ∧ OwnKs w' w.heap.size w'.heap.size C' e' (foldS S L).2.2 ∧ Below w.heap.size w w' := by
  subst hn; subst hm; subst hq; subst hr
  refine callsR Tryz.func10 rfl rfl (by kernel_rfl) rfl ?_
  have hw := Below.refl w.heap.size w
  refine rk_seq ?_
  refine rk_region ?_
  refine wl_boxg [_, _, _] rfl (by rfl) ?_
  rintro g2 w2 f2 b2 i2 i2_1
  have s2 := b2.size
  replace hw := hw.trans (b2.mono hw.size)
  refine wl_allocg [_, _, _] Tryz.zeroValue31 (by rfl) ?_
  rintro g4 w4 f4 b4 i4 i4_1
  have s4 := b4.size
  replace hw := hw.trans (b4.mono hw.size)
  replace f2 := f2.u b4
  refine wl_nil ?_
  refine rk_seq ?_
  refine rk_region ?_
  refine wl_r (o_loadag Tryz.isAgg31 Tryz.sizeOf31 rfl f2 (by rfl)) ?_
  refine wl_call rfl (C_clone _ (hA.u hw) (hB.u hw) (hC.u hw) rfl rfl rfl (by omega) (by omega) (by omega) (by omega)) ?_
  rintro v12 w12 ⟨A12, ⟨c12, ⟨B12, ⟨d12, ⟨C12, ⟨e12, ⟨m112, ⟨m212, ⟨rfl, ⟨f12, ⟨f12_1, ⟨f12_2, ⟨i12, ⟨i12_1, ⟨i12_2, b12⟩⟩⟩⟩⟩⟩⟩⟩⟩⟩⟩⟩⟩⟩⟩
  have qf12 := f12.cap
  have qf12_1 := f12_1.cap
  have qf12_2 := f12_2.cap
  have s12 := b12.size
  replace hw := hw.trans (b12.mono hw.size)
  replace f2 := f2.u b12
  replace f4 := f4.u b12
  refine wl_storega Tryz.sizeOf31 rfl rfl (by rfl) (oneCell_of (by rfl)) f2 (by rfl) ?_
  rintro w_1 f g e_1
  have s_1 := g.size
  replace hw := hw.trans (below_of_grownBy g.g hw.size (by omega))
  replace f4 := f4.k g.g (ap_some (by omega))
  replace f12_2 := f12_2.y g (by decide)
  replace f12_1 := f12_1.y g (by decide)
  replace f12 := f12.y g (by decide)
  clear f2
  refine wl_nil ?_
  refine rk_seq ?_
  refine rk_seq ?_
  refine rk_region ?_
  refine wl_r (o_loadag Tryz.isAgg31 Tryz.sizeOf31 rfl f (by rfl)) ?_
  refine wl_call rfl (C_checkStateOk _ f12.to_RI f12_1.to_RKs f12_2.to_RKs rfl rfl rfl (by omega) (by omega) (by omega) (by omega) (by omega)) ?_
  rintro v14 w14 ⟨rfl, b14⟩
  have s14 := b14.size
  replace hw := hw.trans (b14.mono hw.size)
  replace f12 := f12.u b14
  replace f12_1 := f12_1.u b14
  replace f12_2 := f12_2.u b14
  replace f4 := f4.u b14
  replace f := f.u b14
  refine wl_p (fun _ => o_ne rfl rfl) ?_
  refine wl_nil ?_
  refine rk_false rfl ?_
  refine rk_skip ?_
  refine rk_seq ?_
  refine rk_seq ?_
  refine rk_region ?_
  refine wl_p (fun _ => o_move rfl) ?_
  refine wl_p (fun _ => o_len (t := 25) Tryz.underlying25 rfl) ?_
  refine wl_p (fun _ => o_move rfl) ?_
  refine wl_nil ?_
  refine rk_block ?_
  have hS0 : StAt w14 w4.heap.size g2 S := ⟨A12, c12, B12, d12, C12, e12, f, f12.base (Nat.le_refl _) (by omega), f12_1.base (by omega) (by omega), f12_2.base (by omega) (by omega), fun k hk e => by
    have x1 := (f12_1.rng k hk).2
    have x2 := (f12_2.rng k e).1
    omega, by omega⟩
  have s40 : w.heap.size ≤ w4.heap.size := by omega
  have s41 : w.heap.size ≤ g2 := by omega
  have s42 : w.heap.size ≤ g4 := by omega
  have s43 : g2 < w4.heap.size := by omega
  have s44 : g4 < w4.heap.size := by omega
  have s45 : g2 < g4 := by omega
  refine rk_joinf (fun fb fr V => fr = [] ++ fb.drop 1 ∧ StAt V w4.heap.size g2 (foldS S L) ∧ Blk V g4 31 [.slice none 0 0, .slice none 0 0, .slice none 0 0] ∧ w14.heap.size ≤ V.heap.size ∧ Below w.heap.size w V) ?_ (fun ks hj => ?_)
  rotate_left
  · refine rk_loopf (fun fb k fr V => ∃ (i : Nat) (v : Int) (T : Stt), fr = [(19, .int .i64 v)] ++ fb.drop 1 ∧ v = i ∧ i ≤ L.length ∧ k = L.length - i ∧ T = foldS S (L.take i) ∧ StAt V w4.heap.size g2 T ∧ Blk V g4 31 [.slice none 0 0, .slice none 0 0, .slice none 0 0] ∧ w14.heap.size ≤ V.heap.size ∧ Below w.heap.size w V) (n := L.length) (Fr.le_of (by kernel_rfl) (by kernel_rfl) (by repeat' constructor)) ⟨0, _, S, rfl, rfl, by omega, rfl, rfl, hS0, f4, Nat.le_refl _, hw⟩ ?_
    clear hw f12 f12_1 f12_2 f f4 hS0
    rintro k fr V ⟨i, v, T, rfl, rfl, hi, rfl, hT, hS, f4, hsz, hw⟩
    have shw := hw.size
    have hokT : OkT T := by rw [hT]; exact foldS_ok _ hok
    first | refine rk_frame (by simp only [List.cons_append, List.nil_append, List.drop_succ_cons, List.drop_zero]; rfl) ?_ | refine wl_frame (by simp only [List.cons_append, List.nil_append, List.drop_succ_cons, List.drop_zero]; rfl) ?_
    refine rk_seq ?_
    refine rk_region ?_
    refine wl_p (fun _ => o_lt rfl rfl) ?_
    refine wl_nil ?_
    refine rk_seq ?_
    refine rk_if rfl (fun h20 => ?_) (fun h20 => ?_)
    · have hil : i < L.length := by omega
      have n1 := hLB _ (List.getElem_mem hil)
      obtain ⟨A, ca, A2, c2, A3, c3, f0, f1, f2, f3, q7, q8⟩ := hS.ex
      obtain ⟨⟨U, eU⟩, hU⟩ : ∃ r, readO L[i].2 = r := ⟨_, rfl⟩
      have e1 : ReadR L[i].2 U eU := ⟨hU⟩
      have hUl : U.length ≤ 8 := by have := readO_len L[i].2; rwa [hU] at this
      have hUo : ∀ o ∈ U, o.2.1.length ≤ 4000000 ∧ o.2.2.1.length ≤ 4000000 := by have := readO_ok L[i].2; rwa [hU] at this
      clear hS
      refine rk_skip ?_
      refine rk_seq ?_
      refine rk_block ?_
      refine rk_seq ?_
      refine rk_region ?_
      refine wl_p (fun _ => (o_iaddrA (i) Tryz.underlying25 Tryz.sizeOf49 rfl rfl rfl (hD.some_ (by omega)) (by omega))) ?_
      refine wl_ldBk rfl hD hw (by omega) ?_
      rintro M22 N22 nc22 D22 c22 G22 i22 f22 i22_1 i22_2
      refine wl_allocBk ?_
      rintro g6 w6 f6 b6 i6 i6_1
      have s6 := b6.size
      replace hw := hw.trans (b6.mono hw.size)
      replace f3 := f3.u b6
      replace f2 := f2.u b6
      replace f1 := f1.u b6
      replace f0 := f0.u b6
      replace f4 := f4.u b6
      refine wl_stBkB rfl f6 bkS0 rfl (by omega) ?_
      rintro w_2 f g_1 e_2
      have s_2 := g_1.size
      replace hw := hw.trans (below_of_grownBy g_1.g hw.size (by omega))
      replace f4 := f4.k g_1.g (ap_some (by omega))
      replace f0 := f0.k g_1.g (ap_some (by omega))
      replace f1 := f1.y g_1 (by decide)
      replace f2 := f2.y g_1 (by decide)
      replace f3 := f3.y g_1 (by decide)
      clear f6
      refine wl_nil ?_
      refine rk_seq ?_
      refine rk_region ?_
      refine wl_p (fun _ => o_faddr (s := 49) (i := 4) (off := 66) Tryz.underlying49 rfl Tryz.sizeOf39 rfl rfl rfl) ?_
      refine wl_r (o_ldBkDt rfl f (by omega)) ?_
      refine wl_call rfl (C_opsReadN _ e1 (f22.u hw) rfl (by omega)) ?_
      rintro v26 w26 ⟨A26, ⟨c26, ⟨rfl, ⟨f26, b26⟩⟩⟩⟩
      have qf26 := f26.cap
      have s26 := b26.size
      replace hw := hw.trans (b26.mono hw.size)
      replace f3 := f3.u b26
      replace f2 := f2.u b26
      replace f1 := f1.u b26
      replace f0 := f0.u b26
      replace f4 := f4.u b26
      replace f := f.u b26
      refine wl_p (fun _ => o_move rfl) ?_
      refine wl_p (fun _ => o_ext20 rfl) ?_
      refine wl_p (fun _ => o_ext21 rfl) ?_
      refine wl_p (fun _ => o_assign rfl) ?_
      refine wl_p (fun _ => o_assign rfl) ?_
      refine wl_nil ?_
      refine rk_seq ?_
      refine rk_region ?_
      refine wl_p (fun _ => o_move rfl) ?_
      refine wl_p (fun _ => o_len (t := 35) Tryz.underlying35 rfl) ?_
      refine wl_p (fun _ => o_move rfl) ?_
      refine wl_nil ?_
      refine rk_block ?_
      have s26 : w4.heap.size ≤ w26.heap.size := by omega
      have hg6 : w4.heap.size ≤ g6 := by omega
      have hS1 : StAt w26 w4.heap.size g2 T := ⟨A, ca, A2, c2, A3, c3, f0, f1.base (Nat.le_refl _) (by omega), f2.base (Nat.le_refl _) (by omega), f3.base (Nat.le_refl _) (by omega), q7, by omega⟩
      refine rk_joinf (fun fb fr W => fr = [] ++ fb.drop 1 ∧ StAt W w4.heap.size g2 (opsS T L[i].1 U) ∧ Blk W g4 31 [.slice none 0 0, .slice none 0 0, .slice none 0 0] ∧ w14.heap.size ≤ W.heap.size ∧ Below w.heap.size w W) ?_ (fun ks hj => ?_)
      rotate_left
      · refine rk_loopf (fun fb k fr W => ∃ (j : Nat) (v : Int) (T' : Stt), fr = [(31, .int .i64 v)] ++ fb.drop 1 ∧ v = j ∧ j ≤ U.length ∧ k = U.length - j ∧ T' = opsS T L[i].1 (U.take j) ∧ StAt W w4.heap.size g2 T' ∧ OwnO W w_2.heap.size w26.heap.size A26 c26 U ∧ Blk W g6 49 (bkC L[i].1 M22 N22 nc22 D22 L[i].2.length c22 G22) ∧ Blk W g4 31 [.slice none 0 0, .slice none 0 0, .slice none 0 0] ∧ w26.heap.size ≤ W.heap.size ∧ Below w.heap.size w W) (n := U.length) (Fr.le_of (by kernel_rfl) (by kernel_rfl) (by repeat' constructor)) ⟨0, _, T, rfl, rfl, by omega, rfl, rfl, hS1, f26, f, f4, Nat.le_refl _, hw⟩ ?_
        clear hw f0 f1 f2 f3 f4 f f26 hS1
        rintro k fr W ⟨j, v, T', rfl, rfl, hjU, rfl, hT', hS, f26, f6, f4, hszW, hw⟩
        have shwW := hw.size
        have hokT' : OkT T' := by rw [hT']; exact opsS_ok _ hokT
        have hwj := Below.refl W.heap.size W
        first | refine rk_frame (by simp only [List.cons_append, List.nil_append, List.drop_succ_cons, List.drop_zero]; rfl) ?_ | refine wl_frame (by simp only [List.cons_append, List.nil_append, List.drop_succ_cons, List.drop_zero]; rfl) ?_
        refine rk_seq ?_
        refine rk_region ?_
        refine wl_p (fun _ => o_lt rfl rfl) ?_
        refine wl_nil ?_
        refine rk_seq ?_
        refine rk_if rfl (fun h32 => ?_) (fun h32 => ?_)
        · have hjl : j < U.length := by omega
          obtain ⟨n2, n3⟩ := hUo _ (List.getElem_mem hjl)
          obtain ⟨A, ca, A2, c2, A3, c3, f0, f1, f2, f3, q7, q8⟩ := hS.ex
          clear hS
          refine rk_skip ?_
          refine rk_seq ?_
          refine rk_block ?_
          refine rk_seq ?_
          refine rk_region ?_
          refine wl_p (fun _ => (o_iaddrA (j) Tryz.underlying35 Tryz.sizeOf54 rfl rfl rfl (f26.some_ (by omega)) (by omega))) ?_
          refine wl_ldOpT rfl f26.to_ROT (by omega) ?_
          rintro K34 c34 V34 d34 f34 f34_1 i34 i34_1 i34_2 i34_3 e34
          refine wl_allocOp ?_
          rintro g10 w10 f10 b10 i10 i10_1
          have s10 := b10.size
          replace hw := hw.trans (b10.mono hw.size)
          replace hwj := hwj.trans (b10.mono hwj.size)
          replace f34_1 := f34_1.u b10
          replace f34 := f34.u b10
          replace f3 := f3.u b10
          replace f2 := f2.u b10
          replace f1 := f1.u b10
          replace f0 := f0.u b10
          replace f4 := f4.u b10
          replace f6 := f6.u b10
          replace f26 := f26.u b10
          refine wl_stOpB rfl f10 rfl ?_
          rintro w_3 f g_2 e_3
          have s_3 := g_2.size
          replace hw := hw.trans (below_of_grownBy g_2.g hw.size (by omega))
          replace hwj := hwj.trans (below_of_grownBy g_2.g hwj.size (by omega))
          replace f26 := f26.q g_2 (ap_some (by omega)) (by decide)
          replace f6 := f6.k g_2.g (ap_some (by omega))
          replace f4 := f4.k g_2.g (ap_some (by omega))
          replace f0 := f0.k g_2.g (ap_some (by omega))
          replace f1 := f1.y g_2 (by decide)
          replace f2 := f2.y g_2 (by decide)
          replace f3 := f3.y g_2 (by decide)
          replace f34 := f34.y g_2 (by decide)
          replace f34_1 := f34_1.y g_2 (by decide)
          clear f10
          refine wl_nil ?_
          refine rk_region ?_
          refine wl_p (fun _ => o_faddr (s := 49) (i := 0) (off := 0) Tryz.underlying49 rfl Tryz.sizeOf42 rfl rfl rfl) ?_
          refine wl_r (o_ldBkW rfl f6) ?_
          refine wl_r (o_loadag Tryz.isAgg54 Tryz.sizeOf54 rfl f (opC_length ..)) ?_
          have shj := hwj.size
          have hS2 : StAt w_3 w4.heap.size g2 T' := ⟨A, ca, A2, c2, A3, c3, f0, f1.base (Nat.le_refl _) (by omega), f2.base (Nat.le_refl _) (by omega), f3.base (Nat.le_refl _) (by omega), q7, by omega⟩
          refine wl_call rfl (K_step w_3 hS2 hokT'.ok f34.to_Rd f34_1.to_Rd rfl rfl n2 n3) ?_
          rintro _ w38 ⟨rfl, e2, e3⟩
          obtain ⟨x1, x2, r1, r2, y1, y2, y3, t1, t2⟩ := e3.ex
          have s1 := y1.size
          have s2 := y2.size
          have s3 := y3.size
          have f4b := ((f4.y y1 (by decide)).y y2 (by decide)).k y3.g (ap_some (lo := g4) (hi := g4 + 1) (by omega))
          have f6b := ((f6.y y1 (by decide)).y y2 (by decide)).y y3 (by decide)
          have f26b := ((f26.y y1 (by decide)).y y2 (by decide)).y y3 (by decide)
          have hws := hw.size
          have hw2 : Below w.heap.size w w38 := hw.trans (((y1.below hws (fun k hk => by have := t1 k hk; omega)).trans (y2.below (by omega) (fun k hk => by have := t2 k hk; omega))).trans (y3.below (by omega) (fun k hk => by injection hk with hk; omega)))
          clear hw f0 f1 f2 f3 f4 f6 f26 f hwj hS2 e3
          have hw := hw2
          clear hw2
          refine wl_nil ?_
          refine rk_blk ?_
          refine rk_region ?_
          refine wl_p (fun _ => o_add rfl rfl (by omega) (by omega)) ?_
          refine wl_p (fun _ => o_move rfl) ?_
          refine wl_nil ?_
          exact rk_againf (Fr.le_of (by kernel_rfl) (by kernel_rfl) (by repeat' constructor)) ⟨j + 1, (j : Int) + 1, _, rfl, by omega, by omega, rfl, by rw [List.take_succ_eq_append_getElem hjl, opsS_snoc, ← hT'], e2, f26b, f6b, f4b, by omega, hw⟩ (by omega)
        · refine rk_exit rfl ?_
          obtain rfl : j = U.length := by omega
          rw [List.take_length] at hT'
          subst hT'
          exact rk_tof hj (Fr.le_of (by kernel_rfl) (by kernel_rfl) (by repeat' constructor)) ⟨rfl, hS, f4, by omega, hw⟩
      clear hw f0 f1 f2 f3 f4 f f26 hS1
      rintro fr W ⟨rfl, hS, f4, hszW, hw⟩
      have shwW := hw.size
      first | refine rk_frame (by simp only [List.cons_append, List.nil_append, List.drop_succ_cons, List.drop_zero]; rfl) ?_ | refine wl_frame (by simp only [List.cons_append, List.nil_append, List.drop_succ_cons, List.drop_zero]; rfl) ?_
      refine rk_blk ?_
      refine rk_region ?_
      refine wl_p (fun _ => o_add rfl rfl (by omega) (by omega)) ?_
      refine wl_p (fun _ => o_move rfl) ?_
      refine wl_nil ?_
      exact rk_againf (Fr.le_of (by kernel_rfl) (by kernel_rfl) (by repeat' constructor)) ⟨i + 1, (i : Int) + 1, opsS T L[i].1 U, rfl, by omega, by omega, rfl, by rw [List.take_succ_eq_append_getElem hil, foldS_snoc, ← hT, blockS, hU], hS, f4, by omega, hw⟩ (by omega)
    · refine rk_exit rfl ?_
      obtain rfl : i = L.length := by omega
      rw [List.take_length] at hT
      subst hT
      exact rk_tof hj (Fr.le_of (by kernel_rfl) (by kernel_rfl) (by repeat' constructor)) ⟨rfl, hS, f4, hsz, hw⟩
  clear hw f12 f12_1 f12_2 f f4 hS0
  rintro fr V ⟨rfl, hS, f4, hsz, hw⟩
  have shw := hw.size
  obtain ⟨A1, a1, A2, a2, A3, a3, z0, z1, z2, z3, z4, z5⟩ := hS.ex
  first | refine rk_frame (by simp only [List.cons_append, List.nil_append, List.drop_succ_cons, List.drop_zero]; rfl) ?_ | refine wl_frame (by simp only [List.cons_append, List.nil_append, List.drop_succ_cons, List.drop_zero]; rfl) ?_
  refine rk_seq ?_
  refine rk_region ?_
  refine wl_r (o_loadag Tryz.isAgg31 Tryz.sizeOf31 rfl z0 (by rfl)) ?_
  refine wl_storega Tryz.sizeOf31 rfl rfl (by rfl) (oneCell_of (by rfl)) f4 (by rfl) ?_
  rintro w_2 f g_1 e_2
  have s_2 := g_1.size
  replace hw := hw.trans (below_of_grownBy g_1.g hw.size (by omega))
  replace z3 := z3.y g_1 (by decide)
  replace z2 := z2.y g_1 (by decide)
  replace z1 := z1.y g_1 (by decide)
  replace z0 := z0.k g_1.g (ap_some (by omega))
  clear f4
  refine wl_nil ?_
  refine ret_cell rfl rfl Tryz.isAgg31 Tryz.sizeOf31 (by assumption) rfl ?_
  exact ⟨A1, a1, A2, a2, A3, a3, rfl, z1.base (by omega) (by omega), z2.base (by omega) (by omega), z3.base (by omega) (by omega), hw⟩
end Go.Proofs.YtahkeoegbjopfaaGreat
/-
  Walk of the document's Word.
-/
namespace Go.Proofs.YtahkeoegbjopfaaGreat
set_option maxRecDepth 100000
open Go.RowKit
end Go.Proofs.YtahkeoegbjopfaaGreat
/-
  Walks of the document's answer for chapter 1: what it writes (numbers, blocks).
-/
namespace Go.Proofs.YtahkeoegbjopfaaGreat
set_option maxRecDepth 100000
open Go.RowKit
theorem div_pow_zero {n i j : Nat} (h : n / 2 ^ i = 0) (hij : i ≤ j) : n / 2 ^ j = 0 := by
  apply Nat.div_eq_of_lt
  have h2 : n < 2 ^ i := by
    rcases Nat.lt_or_ge n (2 ^ i) with h3 | h3
    · exact h3
    · have := (Nat.one_le_div_iff (Nat.two_pow_pos i)).2 h3
      omega
  exact Nat.lt_of_lt_of_le h2 (Nat.pow_le_pow_right (by decide) hij)
theorem room_char (n j : Nat) (h1 : 1 ≤ j) (h9 : j ≤ 9) (hlo : j = 1 ∨ n / 2 ^ (7 * (j - 1)) ≠ 0) (hhi : j = 9 ∨ n / 2 ^ (7 * j) = 0) : room n = j := by
  have hk := room_pos n
  rcases Nat.lt_trichotomy (room n) j with h | h | h
  · rcases hlo with e | e
    · omega
    · rcases room_hi n with e2 | e2
      · omega
      · exact absurd (div_pow_zero e2 (by omega)) e
  · exact h
  · rcases hhi with e | e
    · omega
    · rcases room_low n with e2 | e2
      · omega
      · exact absurd (div_pow_zero e (by omega)) e2

theorem shift_nat (n : Nat) (k : Int) (j : Nat) (hk : k = j) (hj : j ≤ 64) : (n : Int) / 2 ^ min k.toNat IntKind.u64.bits = ((n / 2 ^ j : Nat) : Int) := by
  have e2 : min k.toNat IntKind.u64.bits = j := by show min _ 64 = _; omega
  rw [e2]; rfl

theorem C_refroom (n : Nat) (w : World) (hn : n < u64) :
    CallsR Tryz.prog 142 [.int .u64 n] w fun v w' => v = .int .i64 (room n) ∧ w = w' := by
  refine callsR Tryz.func142 rfl rfl (by kernel_rfl) rfl ?_
  refine rk_seq ?_
  refine rk_region ?_
  refine wl_p (fun _ => o_assign rfl) ?_
  refine wl_nil ?_
  refine rk_seq ?_
  refine rk_region ?_
  refine wl_p (fun _ => o_assign rfl) ?_
  refine wl_nil ?_
  refine rk_seq ?_
  refine rk_block ?_
  refine rk_loop (fun m fr w' => ∃ k : Nat, ∃ v : Int, fr = [(0, .int .u64 n), (3, .int .i64 v)] ∧ v = k ∧ 1 ≤ k ∧ k ≤ 9 ∧ m = 9 - k ∧ (k = 1 ∨ n / 2 ^ (7 * (k - 1)) ≠ 0) ∧ w = w') (n := 8) (by repeat' constructor) ⟨1, 1, rfl, rfl, by omega, by omega, rfl, .inl rfl, rfl⟩ ?_
  rintro m fr _ ⟨k, v, rfl, rfl, hk1, hk9, rfl, hk, rfl⟩
  refine rk_seq ?_
  refine rk_seq ?_
  refine rk_region ?_
  refine wl_p (fun _ => o_move rfl) ?_
  refine wl_p (fun _ => o_lt rfl rfl) ?_
  refine wl_p (fun _ => o_move rfl) ?_
  refine wl_bool 6 rfl (fun h6 => ?_) (fun h6 => ?_)
  · have h9 : (k : Int) < 9 := of_decide_eq_true h6
    refine wl_p (fun _ => o_move rfl) ?_
    refine wl_p (fun _ => o_move rfl) ?_
    refine wl_p (fun _ => o_mul rfl rfl (by omega) (by omega)) ?_
    refine wl_p (fun _ => o_convu64 (src := 3) (dst := 102) Tryz.underlying3 Tryz.underlying102 rfl (by omega) (by omega)) ?_
    refine wl_p (fun _ => o_shr rfl rfl (by omega)) ?_
    refine wl_p (fun _ => o_ne rfl rfl) ?_
    refine wl_p (fun _ => o_pick_t rfl rfl) ?_
    refine wl_nil ?_
    refine rk_if rfl (fun h => ?_) (fun h => ?_)
    · rw [shift_nat n _ (7 * k) (by omega) (by omega)] at h
      refine rk_skip ?_
      refine rk_block ?_
      refine rk_region ?_
      refine wl_p (fun _ => o_move rfl) ?_
      refine wl_p (fun _ => o_add rfl rfl (by omega) (by omega)) ?_
      refine wl_p (fun _ => o_assign rfl) ?_
      refine wl_nil ?_
      refine rk_blk ?_
      exact rk_again (by repeat' constructor) ⟨k + 1, _, rfl, rfl, by omega, by omega, rfl, .inr (by simp only [Nat.add_sub_cancel]; omega), rfl⟩ (by omega)
    · rw [shift_nat n _ (7 * k) (by omega) (by omega)] at h
      refine rk_exit rfl ?_
      refine rk_seq ?_
      refine rk_region ?_
      refine wl_p (fun _ => o_move rfl) ?_
      refine wl_p (fun _ => o_assign rfl) ?_
      refine wl_nil ?_
      refine ret1 rfl rfl ?_
      exact ⟨by rw [room_char n k hk1 hk9 hk (.inr (by omega))], rfl⟩
  · have h9 : ¬ (k : Int) < 9 := of_decide_eq_false h6
    refine wl_off ?_
    refine wl_off ?_
    refine wl_off ?_
    refine wl_off ?_
    refine wl_off ?_
    refine wl_off ?_
    refine wl_p (fun _ => o_pick_f rfl rfl) ?_
    refine wl_nil ?_
    refine rk_false rfl ?_
    refine rk_exit rfl ?_
    refine rk_seq ?_
    refine rk_region ?_
    refine wl_p (fun _ => o_move rfl) ?_
    refine wl_p (fun _ => o_assign rfl) ?_
    refine wl_nil ?_
    refine ret1 rfl rfl ?_
    exact ⟨by rw [room_char n k hk1 hk9 hk (.inl (by omega))], rfl⟩

theorem ref_byte (n : Nat) (h : n < 18446744073709551616) : IntKind.u8.wrap (IntKind.u8.wrap (IntKind.u64.wrap (256 - IntKind.u64.wrap (1 * 2 ^ min (9 - (room n : Int)).toNat IntKind.u64.bits))) + IntKind.u8.wrap ((n : Int) / 2 ^ min (8 * ((room n : Int) - 1)).toNat IntKind.u64.bits)) = ((first (room n) n).toNat : Int) := by
  have hk := room_pos n
  have hlt := room_lt n h
  have e1 : (8 * ((room n : Int) - 1)) = 8 * ((room n - 1 : Nat) : Int) := by omega
  rw [e1, byte_shift n (room n - 1) (by omega)]
  unfold first
  generalize hq : n / 256 ^ (room n - 1) = q at *
  have hq256 : q < 256 := Nat.lt_of_lt_of_le hlt (Nat.pow_le_pow_right (by omega) (show 8 - room n ≤ 8 by omega))
  have e2 : IntKind.u8.wrap (IntKind.u64.wrap (256 - IntKind.u64.wrap (1 * 2 ^ min (9 - (room n : Int)).toNat IntKind.u64.bits))) = (((256 - 2 ^ (9 - room n)) % 256 : Nat) : Int) := by
    have h3 : ∀ k : Fin 10, 1 ≤ k.val → IntKind.u8.wrap (IntKind.u64.wrap (256 - IntKind.u64.wrap (1 * 2 ^ min (9 - (k.val : Int)).toNat IntKind.u64.bits))) = (((256 - 2 ^ (9 - k.val)) % 256 : Nat) : Int) := by decide +kernel
    exact h3 ⟨room n, by omega⟩ hk.1
  rw [e2, UInt8.toNat_ofNat', UInt8.toNat_ofNat', IntKind.wrap_u8']
  generalize 256 - 2 ^ (9 - room n) = r
  omega

theorem C_refNumber {A : Option Addr} {l : List UInt8} (c : Nat) (n : Nat) (w : World) (hr : Rd w A l) (hn : n < u64) (hl : l.length ≤ 140737488355000) :
    CallsR Tryz.prog 108 [.slice A l.length c, .int .u64 n] w fun v w' => ∃ A' c', v = .slice A' (l ++ enc n).length c' ∧ Own w' w.heap.size A' c' (l ++ enc n) ∧ Below w.heap.size w w' := by
  have hk := room_pos n
  refine callsR Tryz.func108 rfl rfl (by kernel_rfl) rfl ?_
  refine rk_seq ?_
  refine rk_region ?_
  refine wl_p (fun _ => o_assign rfl) ?_
  refine wl_nil ?_
  refine rk_seq ?_
  refine rk_region ?_
  refine wl_lit8 (xs := []) [] Tryz.u8 Tryz.sizeOf5 Tryz.zeroValue5 rfl rfl ?_
  intro w1 hown1 hb1 hz1
  refine wl_p (fun _ => o_move rfl) ?_
  refine wl_app (s := []) Tryz.u8 rfl rfl hown1 rfl rfl (hr.below hb1) (by simp; omega) hb1.size ?_
  intro A10 c10 w10 hown10 hg10 hk10 hb10
  rw [List.nil_append] at hown10 ⊢
  have hb := hb1.trans hb10
  refine wl_p (fun _ => o_assign rfl) ?_
  refine wl_nil ?_
  refine rk_seq ?_
  refine rk_region ?_
  refine wl_p (fun _ => o_move rfl) ?_
  refine wl_call rfl (C_refroom n w10 hn) ?_
  rintro _ w12 ⟨rfl, rfl⟩
  refine wl_p (fun _ => o_assign rfl) ?_
  refine wl_nil ?_
  refine rk_seq ?_
  refine rk_seq ?_
  refine rk_region ?_
  refine wl_p (fun _ => o_move rfl) ?_
  refine wl_p (fun _ => o_eq rfl rfl) ?_
  refine wl_nil ?_
  refine rk_join (fun fr w' => ∃ A' c' len, fr = [(1, .int .u64 n), (5, .slice A' len c'), (6, .int .i64 (room n))] ∧ len = (l ++ [first (room n) n]).length ∧ Own w' w.heap.size A' c' (l ++ [first (room n) n]) ∧ Below w.heap.size w w') ?_ (fun ks hj => ?_)
  · rintro fr w2 ⟨A', c', len, rfl, hln, hown', hb'⟩
    refine rk_seq ?_
    refine rk_seq ?_
    refine rk_region ?_
    refine wl_p (fun _ => o_move rfl) ?_
    refine wl_p (fun _ => o_sub rfl rfl (by omega) (by omega)) ?_
    refine wl_p (fun _ => o_assign rfl) ?_
    refine wl_nil ?_
    refine rk_block ?_
    refine rk_loop (fun j fr w' => ∃ A' c' len l' i, fr = [(1, .int .u64 n), (5, .slice A' len c'), (7, .int .i64 i)] ∧ len = l'.length ∧ i = (j : Int) - 1 ∧ j ≤ 8 ∧ l' ++ beB j n = l ++ enc n ∧ Own w' w.heap.size A' c' l' ∧ Below w.heap.size w w')
      (n := room n - 1) (by repeat' constructor) ⟨A', c', _, _, _, rfl, hln, by omega, by omega, by simp [enc], hown', hb'⟩ ?_
    rintro j fr w3 ⟨A', c', len, l', i, rfl, hln, hi, hj8, hl', hown', hb'⟩
    have hlen : l'.length + j = l.length + room n := by have := congrArg List.length hl'; simpa [beB_length, enc_length] using this
    refine rk_seq ?_
    refine rk_seq ?_
    refine rk_region ?_
    refine wl_p (fun _ => o_move rfl) ?_
    refine wl_p (fun _ => o_ge rfl rfl) ?_
    refine wl_nil ?_
    refine rk_if rfl (fun h => ?_) (fun h => ?_)
    · obtain ⟨q, rfl⟩ := Int.eq_ofNat_of_zero_le h
      obtain rfl : j = q + 1 := by omega
      refine rk_skip ?_
      refine rk_seq ?_
      refine rk_block ?_
      refine rk_region ?_
      refine wl_p (fun _ => o_move rfl) ?_
      refine wl_p (fun _ => o_move rfl) ?_
      refine wl_p (fun _ => o_move rfl) ?_
      refine wl_p (fun _ => o_mul rfl rfl (by omega) (by omega)) ?_
      refine wl_p (fun _ => o_convu64 (src := 3) (dst := 102) Tryz.underlying3 Tryz.underlying102 rfl (by omega) (by omega)) ?_
      refine wl_p (fun _ => o_shr rfl rfl (by omega)) ?_
      refine wl_p (fun _ => o_asi (o_convi Tryz.underlying43 Tryz.underlying5 rfl) (byte_shift n q (by omega))) ?_
      refine wl_v (o_lit (is := [0]) (xs := [.tmp 47]) rfl (Tryz.lit8 _ _)) ?_
      have hs2 := hb'.size
      refine wl_app (m := [UInt8.ofNat (n / 256 ^ q)]) Tryz.u8 rfl hln (hown'.alloc _) rfl rfl (rd_lit _ _ _ rfl) (by simp; omega) (by simp; omega) ?_
      intro A35 c35 w35 hown35 hg35 hk35 hb35
      refine wl_p (fun _ => o_assign rfl) ?_
      refine wl_nil ?_
      refine rk_blk ?_
      refine rk_region ?_
      refine wl_p (fun _ => o_move rfl) ?_
      refine wl_p (fun _ => o_sub rfl rfl (by omega) (by omega)) ?_
      refine wl_p (fun _ => o_assign rfl) ?_
      refine wl_nil ?_
      exact rk_again (m := q) (by repeat' constructor) ⟨A35, c35, _, _, _, rfl, rfl, rfl, by omega, by simpa [beB] using hl', hown35, (hb'.alloc (by omega) _).trans hb35⟩ (by omega)
    · obtain rfl : j = 0 := by omega
      refine rk_exit rfl ?_
      refine rk_seq ?_
      refine rk_region ?_
      refine wl_p (fun _ => o_move rfl) ?_
      refine wl_p (fun _ => o_assign rfl) ?_
      refine wl_nil ?_
      refine ret1 rfl rfl ?_
      simp only [beB, List.append_nil] at hl'
      subst hl'
      exact ⟨A', c', by rw [hln], hown', hb'⟩
  · have hs10 := hb.size
    refine rk_if rfl (fun h => ?_) (fun h => ?_)
    · refine rk_region ?_
      refine wl_p (fun _ => o_move rfl) ?_
      refine wl_v (o_lit (is := [0]) (xs := [.const (.int .u8 255)]) rfl (Tryz.lit8 _ _)) ?_
      have e9 : room n = 9 := by omega
      refine wl_app (m := [first (room n) n]) Tryz.u8 rfl rfl (hown10.alloc _) rfl rfl (rd_lit _ _ _ ?_) (by simp; omega) (by simp; omega) ?_
      · have h9 : n / 256 ^ 8 = 0 := Nat.div_eq_of_lt (by simpa using hn)
        rw [e9]; unfold first; rw [h9]; rfl
      intro A35 c35 w35 hown35 hg35 hk35 hb35
      refine wl_p (fun _ => o_assign rfl) ?_
      refine wl_nil ?_
      exact rk_to hj (by repeat' constructor) ⟨A35, c35, _, rfl, rfl, hown35, (hb.alloc (by omega) _).trans hb35⟩
    · refine rk_region ?_
      refine wl_p (fun _ => o_move rfl) ?_
      refine wl_p (fun _ => o_move rfl) ?_
      refine wl_p (fun _ => o_sub rfl rfl (by omega) (by omega)) ?_
      refine wl_p (fun _ => o_convu64 (src := 3) (dst := 102) Tryz.underlying3 Tryz.underlying102 rfl (by omega) (by omega)) ?_
      refine wl_p (fun _ => o_shl rfl rfl (by omega)) ?_
      refine wl_p (fun _ => o_subw rfl rfl) ?_
      refine wl_p (fun _ => o_convi (src := 43) (dst := 5) Tryz.underlying43 Tryz.underlying5 rfl) ?_
      refine wl_p (fun _ => o_move rfl) ?_
      refine wl_p (fun _ => o_move rfl) ?_
      refine wl_p (fun _ => o_sub rfl rfl (by omega) (by omega)) ?_
      refine wl_p (fun _ => o_mul rfl rfl (by omega) (by omega)) ?_
      refine wl_p (fun _ => o_convu64 (src := 3) (dst := 102) Tryz.underlying3 Tryz.underlying102 rfl (by omega) (by omega)) ?_
      refine wl_p (fun _ => o_shr rfl rfl (by omega)) ?_
      refine wl_p (fun _ => o_convi (src := 43) (dst := 5) Tryz.underlying43 Tryz.underlying5 rfl) ?_
      refine wl_p (fun _ => o_asi (o_addw rfl rfl) (ref_byte n hn)) ?_
      refine wl_v (o_lit (is := [0]) (xs := [.tmp 32]) rfl (Tryz.lit8 _ _)) ?_
      refine wl_app (m := [first (room n) n]) Tryz.u8 rfl rfl (hown10.alloc _) rfl rfl (rd_lit _ _ _ rfl) (by simp; omega) (by simp; omega) ?_
      intro A35 c35 w35 hown35 hg35 hk35 hb35
      refine wl_p (fun _ => o_assign rfl) ?_
      refine wl_nil ?_
      exact rk_to hj (by repeat' constructor) ⟨A35, c35, _, rfl, rfl, hown35, (hb.alloc (by omega) _).trans hb35⟩

theorem C_refBlock {A X : Option Addr} {l p : List UInt8} (c k : Nat) (w : World) (hr : Rd w A l) (hp : Rd w X p) (hl : l.length + p.length ≤ 140737488355000) :
    CallsR Tryz.prog 63 [.slice A l.length c, .slice X p.length k] w fun v w' => ∃ A' c', v = .slice A' (l ++ enc p.length ++ p).length c' ∧ Own w' w.heap.size A' c' (l ++ enc p.length ++ p) ∧ Below w.heap.size w w' := by
  have hk := room_pos p.length
  have hn : p.length < u64 := by unfold u64; omega
  refine callsR Tryz.func63 rfl rfl (by kernel_rfl) rfl ?_
  refine rk_seq ?_
  refine rk_region ?_
  refine wl_p (fun _ => o_assign rfl) ?_
  refine wl_nil ?_
  refine rk_seq ?_
  refine rk_region ?_
  refine wl_p (fun _ => o_move rfl) ?_
  refine wl_p (fun _ => o_move rfl) ?_
  refine wl_p (fun _ => o_len (t := 39) Tryz.underlying39 rfl) ?_
  refine wl_p (fun _ => o_convu64 (src := 3) (dst := 43) Tryz.underlying3 Tryz.underlying43 rfl (by omega) (by omega)) ?_
  refine wl_call rfl (C_refNumber c p.length w hr hn (by omega)) ?_
  rintro _ w3 ⟨A3, c3, rfl, hown3, hb3⟩
  refine wl_p (fun _ => o_move rfl) ?_
  refine wl_app Tryz.u8 rfl rfl hown3 rfl rfl (hp.below hb3) (by simp [enc_length]; omega) hb3.size ?_
  intro A4 c4 w4 hown4 hg4 hk4 hb4
  refine wl_p (fun _ => o_assign rfl) ?_
  refine wl_nil ?_
  refine ret1 rfl rfl ?_
  exact ⟨A4, c4, rfl, hown4, hb3.trans hb4⟩

end Go.Proofs.YtahkeoegbjopfaaGreat
/-
  Walks of the document's answer for chapter 22: an op's check, the bytes of ops.
-/
namespace Go.Proofs.YtahkeoegbjopfaaGreat
set_option maxRecDepth 100000
open Go.RowKit
theorem C_refBlockH {A X : Option Addr} {l p : By} {n m c k : Nat} (w : World) (hr : Rd w A l) (hp : Rd w X p) (hn : n = l.length) (hm : m = p.length) (hl : l.length ≤ 4000000) (hl2 : p.length ≤ 4000000) :
    CallsR Tryz.prog 63 [.slice A n c, .slice X m k] w fun v w' => ∃ A' c', v = .slice A' (l ++ blkB p).length c' ∧ OwnH w' w.heap.size w'.heap.size A' c' (l ++ blkB p) ∧ Below w.heap.size w w' := by
  subst hn; subst hm
  refine CallsR.mono (C_refBlock c k w hr hp (by omega)) ?_
  rintro v w' ⟨A', c', rfl, h1, h2⟩
  rw [List.append_assoc] at h1 ⊢
  exact ⟨A', c', rfl, h1.h_, h2⟩
theorem C_r11Key {A : Option Addr} {n c : Nat} (w : World) (hn : n ≤ 4000000000) :
    CallsR Tryz.prog 117 [.slice A n c] w fun v w' => v = .bool (decide (1 ≤ n ∧ n ≤ 16)) ∧ Below w.heap.size w w' := by
  refine callsR Tryz.func117 rfl rfl (by kernel_rfl) rfl ?_
  have hw := Below.refl w.heap.size w
  by_cases h1 : 1 ≤ n
  · refine rk_seq ?_
    refine rk_region ?_
    refine wl_p (fun _ => o_assign rfl) ?_
    refine wl_nil ?_
    refine rk_seq ?_
    refine rk_region ?_
    refine wl_p (fun _ => o_move rfl) ?_
    refine wl_p (fun _ => o_len (t := 39) Tryz.underlying39 rfl) ?_
    refine wl_p (fun _ => o_ge rfl rfl) ?_
    refine wl_p (fun _ => o_move rfl) ?_
    refine wl_know 6 true rfl (decide_eq_true (by omega)) ?_
    refine wl_p (fun _ => o_move rfl) ?_
    refine wl_p (fun _ => o_len (t := 39) Tryz.underlying39 rfl) ?_
    refine wl_p (fun _ => o_le rfl rfl) ?_
    refine wl_p (fun _ => o_pick_t rfl rfl) ?_
    refine wl_p (fun _ => o_assign rfl) ?_
    refine wl_nil ?_
    refine ret1 rfl rfl ?_
    exact ⟨congrArg Value.bool (decide_eq_decide.2 (by omega)), hw⟩
  · refine rk_seq ?_
    refine rk_region ?_
    refine wl_p (fun _ => o_assign rfl) ?_
    refine wl_nil ?_
    refine rk_seq ?_
    refine rk_region ?_
    refine wl_p (fun _ => o_move rfl) ?_
    refine wl_p (fun _ => o_len (t := 39) Tryz.underlying39 rfl) ?_
    refine wl_p (fun _ => o_ge rfl rfl) ?_
    refine wl_p (fun _ => o_move rfl) ?_
    refine wl_know 6 false rfl (decide_eq_false (by omega)) ?_
    refine wl_off ?_
    refine wl_off ?_
    refine wl_off ?_
    refine wl_p (fun _ => o_pick_f rfl rfl) ?_
    refine wl_p (fun _ => o_assign rfl) ?_
    refine wl_nil ?_
    refine ret1 rfl rfl ?_
    exact ⟨by simp [h1], hw⟩
theorem C_r11Value {A : Option Addr} {n c : Nat} (w : World) (hn : n ≤ 4000000000) :
    CallsR Tryz.prog 118 [.slice A n c] w fun v w' => v = .bool (decide (n ≤ 32)) ∧ Below w.heap.size w w' := by
  refine callsR Tryz.func118 rfl rfl (by kernel_rfl) rfl ?_
  have hw := Below.refl w.heap.size w
  refine rk_seq ?_
  refine rk_region ?_
  refine wl_p (fun _ => o_assign rfl) ?_
  refine wl_nil ?_
  refine rk_seq ?_
  refine rk_region ?_
  refine wl_p (fun _ => o_move rfl) ?_
  refine wl_p (fun _ => o_len (t := 39) Tryz.underlying39 rfl) ?_
  refine wl_p (fun _ => o_le rfl rfl) ?_
  refine wl_p (fun _ => o_assign rfl) ?_
  refine wl_nil ?_
  refine ret1 rfl rfl ?_
  exact ⟨congrArg Value.bool (decide_eq_decide.2 (by omega)), hw⟩
theorem C_r11KeyY {A : Option Addr} {n c : Nat} (w : World) (h : 1 ≤ n ∧ n ≤ 16) :
    CallsR Tryz.prog 117 [.slice A n c] w fun v w' => v = .bool true ∧ Below w.heap.size w w' := by
  have := C_r11Key (A := A) (c := c) w (n := n) (by omega)
  rwa [decide_eq_true h] at this
theorem C_r11KeyN {A : Option Addr} {n c : Nat} (w : World) (hn : n ≤ 4000000000) (h : ¬(1 ≤ n ∧ n ≤ 16)) :
    CallsR Tryz.prog 117 [.slice A n c] w fun v w' => v = .bool false ∧ Below w.heap.size w w' := by
  have := C_r11Key (A := A) (c := c) w (n := n) hn
  rwa [decide_eq_false h] at this
theorem C_r11ValueY {A : Option Addr} {n c : Nat} (w : World) (h : n ≤ 32) :
    CallsR Tryz.prog 118 [.slice A n c] w fun v w' => v = .bool true ∧ Below w.heap.size w w' := by
  have := C_r11Value (A := A) (c := c) w (n := n) (by omega)
  rwa [decide_eq_true h] at this
theorem C_r11ValueN {A : Option Addr} {n c : Nat} (w : World) (hn : n ≤ 4000000000) (h : ¬(n ≤ 32)) :
    CallsR Tryz.prog 118 [.slice A n c] w fun v w' => v = .bool false ∧ Below w.heap.size w w' := by
  have := C_r11Value (A := A) (c := c) w (n := n) hn
  rwa [decide_eq_false h] at this
theorem C_r22Check {K V : Option Addr} {n c m d : Nat} {k : Int} {u : Ky} (w : World) (hn : n ≤ 4000000000) (hm : m ≤ 4000000000) :
    CallsR Tryz.prog 62 [.agg (opC k K n c V m d u).toArray] w fun v w' => v = .int .i64 (if okOp k n m u = true then 0 else 2) ∧ Below w.heap.size w w' := by
  refine callsR Tryz.func62 rfl rfl (by kernel_rfl) rfl ?_
  have hw := Below.refl w.heap.size w
  by_cases hk : k = 1 ∨ k = 2 ∨ k = 3 ∨ k = 4 ∨ k = 5 ∨ k = 6
  rotate_left
  · have x1 : k ≠ 1 := by omega
    have x2 : k ≠ 2 := by omega
    have x3 : k ≠ 3 := by omega
    have x4 : k ≠ 4 := by omega
    have x5 : k ≠ 5 := by omega
    have x6 : k ≠ 6 := by omega
    have x7 : okOp k n m u = false := by
      unfold okOp
      rw [show (decide (1 ≤ k) && decide (k ≤ 6)) = false by simp only [Bool.and_eq_false_imp, decide_eq_true_eq, decide_eq_false_iff_not]; omega]
      rfl
    refine rk_seq ?_
    refine rk_region ?_
    refine wl_boxg _ rfl (by rfl) ?_
    rintro g1 w1 f1 b1 i1 i1_1
    have s1 := b1.size
    replace hw := hw.trans (b1.mono hw.size)
    refine wl_p (fun _ => o_assign rfl) ?_
    refine wl_nil ?_
    refine rk_seq ?_
    refine rk_region ?_
    refine wl_p (fun _ => o_faddr (s := 54) (i := 3) (off := 3) Tryz.underlying54 rfl Tryz.sizeOf42 rfl rfl rfl) ?_
    refine wl_r (o_ldWho rfl f1) ?_
    refine wl_p (fun _ => (o_zKey)) ?_
    refine wl_p (fun _ => (o_eqKy rfl rfl)) ?_
    refine wl_p (fun _ => o_assign rfl) ?_
    refine wl_nil ?_
    refine rk_seq ?_
    refine rk_region ?_
    refine wl_p (fun _ => o_assign rfl) ?_
    refine wl_nil ?_
    refine rk_seq ?_
    refine rk_seq ?_
    refine rk_region ?_
    refine wl_p (fun _ => o_faddr (s := 54) (i := 0) (off := 0) Tryz.underlying54 rfl Tryz.sizeOf3 rfl rfl rfl) ?_
    refine wl_r (o_loadbg Tryz.isAgg3 rfl f1 (by rfl)) ?_
    refine wl_nil ?_
    refine rk_block ?_
    refine rk_seq ?_
    refine rk_region ?_
    refine wl_p (fun _ => o_eq rfl rfl) ?_
    refine wl_p (fun _ => o_assign rfl) ?_
    refine wl_nil ?_
    refine rk_if rfl (fun h11 => absurd h11 (by omega)) (fun h11 => ?_)
    refine rk_seq ?_
    refine rk_region ?_
    refine wl_p (fun _ => o_eq rfl rfl) ?_
    refine wl_p (fun _ => o_assign rfl) ?_
    refine wl_nil ?_
    refine rk_if rfl (fun h24 => absurd h24 (by omega)) (fun h24 => ?_)
    refine rk_seq ?_
    refine rk_seq ?_
    refine rk_region ?_
    refine wl_p (fun _ => o_eq rfl rfl) ?_
    refine wl_p (fun _ => o_assign rfl) ?_
    refine wl_nil ?_
    refine rk_if rfl (fun h38 => absurd h38 (by omega)) (fun h38 => ?_)
    refine rk_seq ?_
    refine rk_region ?_
    refine wl_p (fun _ => o_eq rfl rfl) ?_
    refine wl_p (fun _ => o_assign rfl) ?_
    refine wl_nil ?_
    refine rk_if rfl (fun h38 => absurd h38 (by omega)) (fun h38 => ?_)
    refine rk_seq ?_
    refine rk_region ?_
    refine wl_p (fun _ => o_eq rfl rfl) ?_
    refine wl_p (fun _ => o_assign rfl) ?_
    refine wl_nil ?_
    refine rk_if rfl (fun h38 => absurd h38 (by omega)) (fun h38 => ?_)
    refine rk_region ?_
    refine wl_p (fun _ => o_eq rfl rfl) ?_
    refine wl_p (fun _ => o_assign rfl) ?_
    refine wl_nil ?_
    refine rk_if rfl (fun h38 => absurd h38 (by omega)) (fun h38 => ?_)
    refine rk_skip ?_
    refine rk_blk ?_
    refine rk_seq ?_
    refine rk_seq ?_
    refine rk_region ?_
    refine wl_p (fun _ => o_move rfl) ?_
    refine wl_p (fun _ => o_not rfl) ?_
    refine wl_nil ?_
    refine rk_true rfl ?_
    refine rk_seq ?_
    refine rk_region ?_
    refine wl_p (fun _ => o_assign rfl) ?_
    refine wl_nil ?_
    refine ret1 rfl rfl ?_
    exact ⟨by simp [x7], hw⟩
  rcases hk with rfl | rfl | rfl | rfl | rfl | rfl
  · by_cases h1 : 1 ≤ n ∧ n ≤ 16
    · by_cases h2 : m ≤ 32
      · by_cases hu : u = z32
        · refine rk_seq ?_
          refine rk_region ?_
          refine wl_boxg _ rfl (by rfl) ?_
          rintro g1 w1 f1 b1 i1 i1_1
          have s1 := b1.size
          replace hw := hw.trans (b1.mono hw.size)
          refine wl_p (fun _ => o_assign rfl) ?_
          refine wl_nil ?_
          refine rk_seq ?_
          refine rk_region ?_
          refine wl_p (fun _ => o_faddr (s := 54) (i := 3) (off := 3) Tryz.underlying54 rfl Tryz.sizeOf42 rfl rfl rfl) ?_
          refine wl_r (o_ldWho rfl f1) ?_
          refine wl_p (fun _ => (o_zKey)) ?_
          refine wl_p (fun _ => (o_eqKy rfl rfl)) ?_
          refine wl_p (fun _ => o_assign rfl) ?_
          refine wl_nil ?_
          refine rk_seq ?_
          refine rk_region ?_
          refine wl_p (fun _ => o_assign rfl) ?_
          refine wl_nil ?_
          refine rk_seq ?_
          refine rk_seq ?_
          refine rk_region ?_
          refine wl_p (fun _ => o_faddr (s := 54) (i := 0) (off := 0) Tryz.underlying54 rfl Tryz.sizeOf3 rfl rfl rfl) ?_
          refine wl_r (o_loadbg Tryz.isAgg3 rfl f1 (by rfl)) ?_
          refine wl_nil ?_
          refine rk_block ?_
          refine rk_seq ?_
          refine rk_region ?_
          refine wl_p (fun _ => o_eq rfl rfl) ?_
          refine wl_p (fun _ => o_assign rfl) ?_
          refine wl_nil ?_
          refine rk_true rfl ?_
          refine rk_region ?_
          refine wl_p (fun _ => o_faddr (s := 54) (i := 1) (off := 1) Tryz.underlying54 rfl Tryz.sizeOf39 rfl rfl rfl) ?_
          refine wl_r (o_loadbg Tryz.isAgg39 rfl f1 (by rfl)) ?_
          refine wl_call rfl (C_r11KeyY _ (by omega)) ?_
          rintro v15 w15 ⟨rfl, b15⟩
          have s15 := b15.size
          replace hw := hw.trans (b15.mono hw.size)
          replace f1 := f1.u b15
          refine wl_p (fun _ => o_move rfl) ?_
          refine wl_p (fun _ => o_faddr (s := 54) (i := 2) (off := 2) Tryz.underlying54 rfl Tryz.sizeOf39 rfl rfl rfl) ?_
          refine wl_r (o_loadbg Tryz.isAgg39 rfl f1 (by rfl)) ?_
          refine wl_call rfl (C_r11ValueY _ (by omega)) ?_
          rintro v19 w19 ⟨rfl, b19⟩
          have s19 := b19.size
          replace hw := hw.trans (b19.mono hw.size)
          replace f1 := f1.u b19
          refine wl_p (fun _ => o_pick_t rfl rfl) ?_
          refine wl_p (fun _ => o_move rfl) ?_
          refine wl_p (fun _ => o_move rfl) ?_
          refine wl_p (fun _ => o_pick_t rfl rfl) ?_
          refine wl_p (fun _ => o_assign rfl) ?_
          refine wl_nil ?_
          refine rk_blk ?_
          refine rk_seq ?_
          refine rk_seq ?_
          refine rk_region ?_
          refine wl_p (fun _ => o_move rfl) ?_
          refine wl_p (fun _ => o_not rfl) ?_
          refine wl_nil ?_
          rw [decide_eq_true hu]
          refine rk_false rfl ?_
          refine rk_skip ?_
          refine rk_seq ?_
          refine rk_region ?_
          refine wl_p (fun _ => o_assign rfl) ?_
          refine wl_nil ?_
          refine ret1 rfl rfl ?_
          exact ⟨by simp [okOp, goodS, h1, h2, hu], hw⟩
        · refine rk_seq ?_
          refine rk_region ?_
          refine wl_boxg _ rfl (by rfl) ?_
          rintro g1 w1 f1 b1 i1 i1_1
          have s1 := b1.size
          replace hw := hw.trans (b1.mono hw.size)
          refine wl_p (fun _ => o_assign rfl) ?_
          refine wl_nil ?_
          refine rk_seq ?_
          refine rk_region ?_
          refine wl_p (fun _ => o_faddr (s := 54) (i := 3) (off := 3) Tryz.underlying54 rfl Tryz.sizeOf42 rfl rfl rfl) ?_
          refine wl_r (o_ldWho rfl f1) ?_
          refine wl_p (fun _ => (o_zKey)) ?_
          refine wl_p (fun _ => (o_eqKy rfl rfl)) ?_
          refine wl_p (fun _ => o_assign rfl) ?_
          refine wl_nil ?_
          refine rk_seq ?_
          refine rk_region ?_
          refine wl_p (fun _ => o_assign rfl) ?_
          refine wl_nil ?_
          refine rk_seq ?_
          refine rk_seq ?_
          refine rk_region ?_
          refine wl_p (fun _ => o_faddr (s := 54) (i := 0) (off := 0) Tryz.underlying54 rfl Tryz.sizeOf3 rfl rfl rfl) ?_
          refine wl_r (o_loadbg Tryz.isAgg3 rfl f1 (by rfl)) ?_
          refine wl_nil ?_
          refine rk_block ?_
          refine rk_seq ?_
          refine rk_region ?_
          refine wl_p (fun _ => o_eq rfl rfl) ?_
          refine wl_p (fun _ => o_assign rfl) ?_
          refine wl_nil ?_
          refine rk_true rfl ?_
          refine rk_region ?_
          refine wl_p (fun _ => o_faddr (s := 54) (i := 1) (off := 1) Tryz.underlying54 rfl Tryz.sizeOf39 rfl rfl rfl) ?_
          refine wl_r (o_loadbg Tryz.isAgg39 rfl f1 (by rfl)) ?_
          refine wl_call rfl (C_r11KeyY _ (by omega)) ?_
          rintro v15 w15 ⟨rfl, b15⟩
          have s15 := b15.size
          replace hw := hw.trans (b15.mono hw.size)
          replace f1 := f1.u b15
          refine wl_p (fun _ => o_move rfl) ?_
          refine wl_p (fun _ => o_faddr (s := 54) (i := 2) (off := 2) Tryz.underlying54 rfl Tryz.sizeOf39 rfl rfl rfl) ?_
          refine wl_r (o_loadbg Tryz.isAgg39 rfl f1 (by rfl)) ?_
          refine wl_call rfl (C_r11ValueY _ (by omega)) ?_
          rintro v19 w19 ⟨rfl, b19⟩
          have s19 := b19.size
          replace hw := hw.trans (b19.mono hw.size)
          replace f1 := f1.u b19
          refine wl_p (fun _ => o_pick_t rfl rfl) ?_
          refine wl_p (fun _ => o_move rfl) ?_
          refine wl_p (fun _ => o_move rfl) ?_
          refine wl_p (fun _ => o_pick_t rfl rfl) ?_
          refine wl_p (fun _ => o_assign rfl) ?_
          refine wl_nil ?_
          refine rk_blk ?_
          refine rk_seq ?_
          refine rk_seq ?_
          refine rk_region ?_
          refine wl_p (fun _ => o_move rfl) ?_
          refine wl_p (fun _ => o_not rfl) ?_
          refine wl_nil ?_
          rw [decide_eq_false hu]
          refine rk_true rfl ?_
          refine rk_seq ?_
          refine rk_region ?_
          refine wl_p (fun _ => o_assign rfl) ?_
          refine wl_nil ?_
          refine ret1 rfl rfl ?_
          exact ⟨by simp [okOp, goodS, hu], hw⟩
      · refine rk_seq ?_
        refine rk_region ?_
        refine wl_boxg _ rfl (by rfl) ?_
        rintro g1 w1 f1 b1 i1 i1_1
        have s1 := b1.size
        replace hw := hw.trans (b1.mono hw.size)
        refine wl_p (fun _ => o_assign rfl) ?_
        refine wl_nil ?_
        refine rk_seq ?_
        refine rk_region ?_
        refine wl_p (fun _ => o_faddr (s := 54) (i := 3) (off := 3) Tryz.underlying54 rfl Tryz.sizeOf42 rfl rfl rfl) ?_
        refine wl_r (o_ldWho rfl f1) ?_
        refine wl_p (fun _ => (o_zKey)) ?_
        refine wl_p (fun _ => (o_eqKy rfl rfl)) ?_
        refine wl_p (fun _ => o_assign rfl) ?_
        refine wl_nil ?_
        refine rk_seq ?_
        refine rk_region ?_
        refine wl_p (fun _ => o_assign rfl) ?_
        refine wl_nil ?_
        refine rk_seq ?_
        refine rk_seq ?_
        refine rk_region ?_
        refine wl_p (fun _ => o_faddr (s := 54) (i := 0) (off := 0) Tryz.underlying54 rfl Tryz.sizeOf3 rfl rfl rfl) ?_
        refine wl_r (o_loadbg Tryz.isAgg3 rfl f1 (by rfl)) ?_
        refine wl_nil ?_
        refine rk_block ?_
        refine rk_seq ?_
        refine rk_region ?_
        refine wl_p (fun _ => o_eq rfl rfl) ?_
        refine wl_p (fun _ => o_assign rfl) ?_
        refine wl_nil ?_
        refine rk_true rfl ?_
        refine rk_region ?_
        refine wl_p (fun _ => o_faddr (s := 54) (i := 1) (off := 1) Tryz.underlying54 rfl Tryz.sizeOf39 rfl rfl rfl) ?_
        refine wl_r (o_loadbg Tryz.isAgg39 rfl f1 (by rfl)) ?_
        refine wl_call rfl (C_r11KeyY _ (by omega)) ?_
        rintro v15 w15 ⟨rfl, b15⟩
        have s15 := b15.size
        replace hw := hw.trans (b15.mono hw.size)
        replace f1 := f1.u b15
        refine wl_p (fun _ => o_move rfl) ?_
        refine wl_p (fun _ => o_faddr (s := 54) (i := 2) (off := 2) Tryz.underlying54 rfl Tryz.sizeOf39 rfl rfl rfl) ?_
        refine wl_r (o_loadbg Tryz.isAgg39 rfl f1 (by rfl)) ?_
        refine wl_call rfl (C_r11ValueN _ (by omega) (by omega)) ?_
        rintro v19 w19 ⟨rfl, b19⟩
        have s19 := b19.size
        replace hw := hw.trans (b19.mono hw.size)
        replace f1 := f1.u b19
        refine wl_p (fun _ => o_pick_t rfl rfl) ?_
        refine wl_p (fun _ => o_move rfl) ?_
        refine wl_off ?_
        refine wl_p (fun _ => o_pick_f rfl rfl) ?_
        refine wl_p (fun _ => o_assign rfl) ?_
        refine wl_nil ?_
        refine rk_blk ?_
        refine rk_seq ?_
        refine rk_seq ?_
        refine rk_region ?_
        refine wl_p (fun _ => o_move rfl) ?_
        refine wl_p (fun _ => o_not rfl) ?_
        refine wl_nil ?_
        refine rk_true rfl ?_
        refine rk_seq ?_
        refine rk_region ?_
        refine wl_p (fun _ => o_assign rfl) ?_
        refine wl_nil ?_
        refine ret1 rfl rfl ?_
        exact ⟨by simp [okOp, goodS, h2], hw⟩
    · refine rk_seq ?_
      refine rk_region ?_
      refine wl_boxg _ rfl (by rfl) ?_
      rintro g1 w1 f1 b1 i1 i1_1
      have s1 := b1.size
      replace hw := hw.trans (b1.mono hw.size)
      refine wl_p (fun _ => o_assign rfl) ?_
      refine wl_nil ?_
      refine rk_seq ?_
      refine rk_region ?_
      refine wl_p (fun _ => o_faddr (s := 54) (i := 3) (off := 3) Tryz.underlying54 rfl Tryz.sizeOf42 rfl rfl rfl) ?_
      refine wl_r (o_ldWho rfl f1) ?_
      refine wl_p (fun _ => (o_zKey)) ?_
      refine wl_p (fun _ => (o_eqKy rfl rfl)) ?_
      refine wl_p (fun _ => o_assign rfl) ?_
      refine wl_nil ?_
      refine rk_seq ?_
      refine rk_region ?_
      refine wl_p (fun _ => o_assign rfl) ?_
      refine wl_nil ?_
      refine rk_seq ?_
      refine rk_seq ?_
      refine rk_region ?_
      refine wl_p (fun _ => o_faddr (s := 54) (i := 0) (off := 0) Tryz.underlying54 rfl Tryz.sizeOf3 rfl rfl rfl) ?_
      refine wl_r (o_loadbg Tryz.isAgg3 rfl f1 (by rfl)) ?_
      refine wl_nil ?_
      refine rk_block ?_
      refine rk_seq ?_
      refine rk_region ?_
      refine wl_p (fun _ => o_eq rfl rfl) ?_
      refine wl_p (fun _ => o_assign rfl) ?_
      refine wl_nil ?_
      refine rk_true rfl ?_
      refine rk_region ?_
      refine wl_p (fun _ => o_faddr (s := 54) (i := 1) (off := 1) Tryz.underlying54 rfl Tryz.sizeOf39 rfl rfl rfl) ?_
      refine wl_r (o_loadbg Tryz.isAgg39 rfl f1 (by rfl)) ?_
      refine wl_call rfl (C_r11KeyN _ (by omega) (by omega)) ?_
      rintro v15 w15 ⟨rfl, b15⟩
      have s15 := b15.size
      replace hw := hw.trans (b15.mono hw.size)
      replace f1 := f1.u b15
      refine wl_p (fun _ => o_move rfl) ?_
      refine wl_off ?_
      refine wl_off ?_
      refine wl_off ?_
      refine wl_p (fun _ => o_pick_f rfl rfl) ?_
      refine wl_p (fun _ => o_move rfl) ?_
      refine wl_off ?_
      refine wl_p (fun _ => o_pick_f rfl rfl) ?_
      refine wl_p (fun _ => o_assign rfl) ?_
      refine wl_nil ?_
      refine rk_blk ?_
      refine rk_seq ?_
      refine rk_seq ?_
      refine rk_region ?_
      refine wl_p (fun _ => o_move rfl) ?_
      refine wl_p (fun _ => o_not rfl) ?_
      refine wl_nil ?_
      refine rk_true rfl ?_
      refine rk_seq ?_
      refine rk_region ?_
      refine wl_p (fun _ => o_assign rfl) ?_
      refine wl_nil ?_
      refine ret1 rfl rfl ?_
      exact ⟨by simp [okOp, goodS, h1], hw⟩
  · by_cases h1 : 1 ≤ n ∧ n ≤ 16
    · by_cases h2 : m = 0
      · by_cases hu : u = z32
        · refine rk_seq ?_
          refine rk_region ?_
          refine wl_boxg _ rfl (by rfl) ?_
          rintro g1 w1 f1 b1 i1 i1_1
          have s1 := b1.size
          replace hw := hw.trans (b1.mono hw.size)
          refine wl_p (fun _ => o_assign rfl) ?_
          refine wl_nil ?_
          refine rk_seq ?_
          refine rk_region ?_
          refine wl_p (fun _ => o_faddr (s := 54) (i := 3) (off := 3) Tryz.underlying54 rfl Tryz.sizeOf42 rfl rfl rfl) ?_
          refine wl_r (o_ldWho rfl f1) ?_
          refine wl_p (fun _ => (o_zKey)) ?_
          refine wl_p (fun _ => (o_eqKy rfl rfl)) ?_
          refine wl_p (fun _ => o_assign rfl) ?_
          refine wl_nil ?_
          refine rk_seq ?_
          refine rk_region ?_
          refine wl_p (fun _ => o_assign rfl) ?_
          refine wl_nil ?_
          refine rk_seq ?_
          refine rk_seq ?_
          refine rk_region ?_
          refine wl_p (fun _ => o_faddr (s := 54) (i := 0) (off := 0) Tryz.underlying54 rfl Tryz.sizeOf3 rfl rfl rfl) ?_
          refine wl_r (o_loadbg Tryz.isAgg3 rfl f1 (by rfl)) ?_
          refine wl_nil ?_
          refine rk_block ?_
          refine rk_seq ?_
          refine rk_region ?_
          refine wl_p (fun _ => o_eq rfl rfl) ?_
          refine wl_p (fun _ => o_assign rfl) ?_
          refine wl_nil ?_
          refine rk_false rfl ?_
          refine rk_seq ?_
          refine rk_region ?_
          refine wl_p (fun _ => o_eq rfl rfl) ?_
          refine wl_p (fun _ => o_assign rfl) ?_
          refine wl_nil ?_
          refine rk_true rfl ?_
          refine rk_region ?_
          refine wl_p (fun _ => o_faddr (s := 54) (i := 1) (off := 1) Tryz.underlying54 rfl Tryz.sizeOf39 rfl rfl rfl) ?_
          refine wl_r (o_loadbg Tryz.isAgg39 rfl f1 (by rfl)) ?_
          refine wl_call rfl (C_r11KeyY _ (by omega)) ?_
          rintro v28 w28 ⟨rfl, b28⟩
          have s28 := b28.size
          replace hw := hw.trans (b28.mono hw.size)
          replace f1 := f1.u b28
          refine wl_p (fun _ => o_move rfl) ?_
          refine wl_p (fun _ => o_faddr (s := 54) (i := 2) (off := 2) Tryz.underlying54 rfl Tryz.sizeOf39 rfl rfl rfl) ?_
          refine wl_r (o_loadbg Tryz.isAgg39 rfl f1 (by rfl)) ?_
          refine wl_p (fun _ => o_len (t := 39) Tryz.underlying39 rfl) ?_
          refine wl_p (fun _ => o_eq rfl rfl) ?_
          refine wl_p (fun _ => o_pick_t rfl rfl) ?_
          refine wl_p (fun _ => o_move rfl) ?_
          refine wl_know 35 true rfl (decide_eq_true (by omega)) ?_
          refine wl_p (fun _ => o_move rfl) ?_
          refine wl_p (fun _ => o_pick_t rfl rfl) ?_
          refine wl_p (fun _ => o_assign rfl) ?_
          refine wl_nil ?_
          refine rk_blk ?_
          refine rk_seq ?_
          refine rk_seq ?_
          refine rk_region ?_
          refine wl_p (fun _ => o_move rfl) ?_
          refine wl_p (fun _ => o_not rfl) ?_
          refine wl_nil ?_
          rw [decide_eq_true hu]
          refine rk_false rfl ?_
          refine rk_skip ?_
          refine rk_seq ?_
          refine rk_region ?_
          refine wl_p (fun _ => o_assign rfl) ?_
          refine wl_nil ?_
          refine ret1 rfl rfl ?_
          exact ⟨by simp [okOp, goodS, h1, h2, hu], hw⟩
        · refine rk_seq ?_
          refine rk_region ?_
          refine wl_boxg _ rfl (by rfl) ?_
          rintro g1 w1 f1 b1 i1 i1_1
          have s1 := b1.size
          replace hw := hw.trans (b1.mono hw.size)
          refine wl_p (fun _ => o_assign rfl) ?_
          refine wl_nil ?_
          refine rk_seq ?_
          refine rk_region ?_
          refine wl_p (fun _ => o_faddr (s := 54) (i := 3) (off := 3) Tryz.underlying54 rfl Tryz.sizeOf42 rfl rfl rfl) ?_
          refine wl_r (o_ldWho rfl f1) ?_
          refine wl_p (fun _ => (o_zKey)) ?_
          refine wl_p (fun _ => (o_eqKy rfl rfl)) ?_
          refine wl_p (fun _ => o_assign rfl) ?_
          refine wl_nil ?_
          refine rk_seq ?_
          refine rk_region ?_
          refine wl_p (fun _ => o_assign rfl) ?_
          refine wl_nil ?_
          refine rk_seq ?_
          refine rk_seq ?_
          refine rk_region ?_
          refine wl_p (fun _ => o_faddr (s := 54) (i := 0) (off := 0) Tryz.underlying54 rfl Tryz.sizeOf3 rfl rfl rfl) ?_
          refine wl_r (o_loadbg Tryz.isAgg3 rfl f1 (by rfl)) ?_
          refine wl_nil ?_
          refine rk_block ?_
          refine rk_seq ?_
          refine rk_region ?_
          refine wl_p (fun _ => o_eq rfl rfl) ?_
          refine wl_p (fun _ => o_assign rfl) ?_
          refine wl_nil ?_
          refine rk_false rfl ?_
          refine rk_seq ?_
          refine rk_region ?_
          refine wl_p (fun _ => o_eq rfl rfl) ?_
          refine wl_p (fun _ => o_assign rfl) ?_
          refine wl_nil ?_
          refine rk_true rfl ?_
          refine rk_region ?_
          refine wl_p (fun _ => o_faddr (s := 54) (i := 1) (off := 1) Tryz.underlying54 rfl Tryz.sizeOf39 rfl rfl rfl) ?_
          refine wl_r (o_loadbg Tryz.isAgg39 rfl f1 (by rfl)) ?_
          refine wl_call rfl (C_r11KeyY _ (by omega)) ?_
          rintro v28 w28 ⟨rfl, b28⟩
          have s28 := b28.size
          replace hw := hw.trans (b28.mono hw.size)
          replace f1 := f1.u b28
          refine wl_p (fun _ => o_move rfl) ?_
          refine wl_p (fun _ => o_faddr (s := 54) (i := 2) (off := 2) Tryz.underlying54 rfl Tryz.sizeOf39 rfl rfl rfl) ?_
          refine wl_r (o_loadbg Tryz.isAgg39 rfl f1 (by rfl)) ?_
          refine wl_p (fun _ => o_len (t := 39) Tryz.underlying39 rfl) ?_
          refine wl_p (fun _ => o_eq rfl rfl) ?_
          refine wl_p (fun _ => o_pick_t rfl rfl) ?_
          refine wl_p (fun _ => o_move rfl) ?_
          refine wl_know 35 true rfl (decide_eq_true (by omega)) ?_
          refine wl_p (fun _ => o_move rfl) ?_
          refine wl_p (fun _ => o_pick_t rfl rfl) ?_
          refine wl_p (fun _ => o_assign rfl) ?_
          refine wl_nil ?_
          refine rk_blk ?_
          refine rk_seq ?_
          refine rk_seq ?_
          refine rk_region ?_
          refine wl_p (fun _ => o_move rfl) ?_
          refine wl_p (fun _ => o_not rfl) ?_
          refine wl_nil ?_
          rw [decide_eq_false hu]
          refine rk_true rfl ?_
          refine rk_seq ?_
          refine rk_region ?_
          refine wl_p (fun _ => o_assign rfl) ?_
          refine wl_nil ?_
          refine ret1 rfl rfl ?_
          exact ⟨by simp [okOp, goodS, hu], hw⟩
      · refine rk_seq ?_
        refine rk_region ?_
        refine wl_boxg _ rfl (by rfl) ?_
        rintro g1 w1 f1 b1 i1 i1_1
        have s1 := b1.size
        replace hw := hw.trans (b1.mono hw.size)
        refine wl_p (fun _ => o_assign rfl) ?_
        refine wl_nil ?_
        refine rk_seq ?_
        refine rk_region ?_
        refine wl_p (fun _ => o_faddr (s := 54) (i := 3) (off := 3) Tryz.underlying54 rfl Tryz.sizeOf42 rfl rfl rfl) ?_
        refine wl_r (o_ldWho rfl f1) ?_
        refine wl_p (fun _ => (o_zKey)) ?_
        refine wl_p (fun _ => (o_eqKy rfl rfl)) ?_
        refine wl_p (fun _ => o_assign rfl) ?_
        refine wl_nil ?_
        refine rk_seq ?_
        refine rk_region ?_
        refine wl_p (fun _ => o_assign rfl) ?_
        refine wl_nil ?_
        refine rk_seq ?_
        refine rk_seq ?_
        refine rk_region ?_
        refine wl_p (fun _ => o_faddr (s := 54) (i := 0) (off := 0) Tryz.underlying54 rfl Tryz.sizeOf3 rfl rfl rfl) ?_
        refine wl_r (o_loadbg Tryz.isAgg3 rfl f1 (by rfl)) ?_
        refine wl_nil ?_
        refine rk_block ?_
        refine rk_seq ?_
        refine rk_region ?_
        refine wl_p (fun _ => o_eq rfl rfl) ?_
        refine wl_p (fun _ => o_assign rfl) ?_
        refine wl_nil ?_
        refine rk_false rfl ?_
        refine rk_seq ?_
        refine rk_region ?_
        refine wl_p (fun _ => o_eq rfl rfl) ?_
        refine wl_p (fun _ => o_assign rfl) ?_
        refine wl_nil ?_
        refine rk_true rfl ?_
        refine rk_region ?_
        refine wl_p (fun _ => o_faddr (s := 54) (i := 1) (off := 1) Tryz.underlying54 rfl Tryz.sizeOf39 rfl rfl rfl) ?_
        refine wl_r (o_loadbg Tryz.isAgg39 rfl f1 (by rfl)) ?_
        refine wl_call rfl (C_r11KeyY _ (by omega)) ?_
        rintro v28 w28 ⟨rfl, b28⟩
        have s28 := b28.size
        replace hw := hw.trans (b28.mono hw.size)
        replace f1 := f1.u b28
        refine wl_p (fun _ => o_move rfl) ?_
        refine wl_p (fun _ => o_faddr (s := 54) (i := 2) (off := 2) Tryz.underlying54 rfl Tryz.sizeOf39 rfl rfl rfl) ?_
        refine wl_r (o_loadbg Tryz.isAgg39 rfl f1 (by rfl)) ?_
        refine wl_p (fun _ => o_len (t := 39) Tryz.underlying39 rfl) ?_
        refine wl_p (fun _ => o_eq rfl rfl) ?_
        refine wl_p (fun _ => o_pick_t rfl rfl) ?_
        refine wl_p (fun _ => o_move rfl) ?_
        refine wl_know 35 false rfl (decide_eq_false (by omega)) ?_
        refine wl_off ?_
        refine wl_p (fun _ => o_pick_f rfl rfl) ?_
        refine wl_p (fun _ => o_assign rfl) ?_
        refine wl_nil ?_
        refine rk_blk ?_
        refine rk_seq ?_
        refine rk_seq ?_
        refine rk_region ?_
        refine wl_p (fun _ => o_move rfl) ?_
        refine wl_p (fun _ => o_not rfl) ?_
        refine wl_nil ?_
        refine rk_true rfl ?_
        refine rk_seq ?_
        refine rk_region ?_
        refine wl_p (fun _ => o_assign rfl) ?_
        refine wl_nil ?_
        refine ret1 rfl rfl ?_
        exact ⟨by simp [okOp, goodS, h2], hw⟩
    · refine rk_seq ?_
      refine rk_region ?_
      refine wl_boxg _ rfl (by rfl) ?_
      rintro g1 w1 f1 b1 i1 i1_1
      have s1 := b1.size
      replace hw := hw.trans (b1.mono hw.size)
      refine wl_p (fun _ => o_assign rfl) ?_
      refine wl_nil ?_
      refine rk_seq ?_
      refine rk_region ?_
      refine wl_p (fun _ => o_faddr (s := 54) (i := 3) (off := 3) Tryz.underlying54 rfl Tryz.sizeOf42 rfl rfl rfl) ?_
      refine wl_r (o_ldWho rfl f1) ?_
      refine wl_p (fun _ => (o_zKey)) ?_
      refine wl_p (fun _ => (o_eqKy rfl rfl)) ?_
      refine wl_p (fun _ => o_assign rfl) ?_
      refine wl_nil ?_
      refine rk_seq ?_
      refine rk_region ?_
      refine wl_p (fun _ => o_assign rfl) ?_
      refine wl_nil ?_
      refine rk_seq ?_
      refine rk_seq ?_
      refine rk_region ?_
      refine wl_p (fun _ => o_faddr (s := 54) (i := 0) (off := 0) Tryz.underlying54 rfl Tryz.sizeOf3 rfl rfl rfl) ?_
      refine wl_r (o_loadbg Tryz.isAgg3 rfl f1 (by rfl)) ?_
      refine wl_nil ?_
      refine rk_block ?_
      refine rk_seq ?_
      refine rk_region ?_
      refine wl_p (fun _ => o_eq rfl rfl) ?_
      refine wl_p (fun _ => o_assign rfl) ?_
      refine wl_nil ?_
      refine rk_false rfl ?_
      refine rk_seq ?_
      refine rk_region ?_
      refine wl_p (fun _ => o_eq rfl rfl) ?_
      refine wl_p (fun _ => o_assign rfl) ?_
      refine wl_nil ?_
      refine rk_true rfl ?_
      refine rk_region ?_
      refine wl_p (fun _ => o_faddr (s := 54) (i := 1) (off := 1) Tryz.underlying54 rfl Tryz.sizeOf39 rfl rfl rfl) ?_
      refine wl_r (o_loadbg Tryz.isAgg39 rfl f1 (by rfl)) ?_
      refine wl_call rfl (C_r11KeyN _ (by omega) (by omega)) ?_
      rintro v28 w28 ⟨rfl, b28⟩
      have s28 := b28.size
      replace hw := hw.trans (b28.mono hw.size)
      replace f1 := f1.u b28
      refine wl_p (fun _ => o_move rfl) ?_
      refine wl_off ?_
      refine wl_off ?_
      refine wl_off ?_
      refine wl_off ?_
      refine wl_p (fun _ => o_pick_f rfl rfl) ?_
      refine wl_p (fun _ => o_move rfl) ?_
      refine wl_off ?_
      refine wl_p (fun _ => o_pick_f rfl rfl) ?_
      refine wl_p (fun _ => o_assign rfl) ?_
      refine wl_nil ?_
      refine rk_blk ?_
      refine rk_seq ?_
      refine rk_seq ?_
      refine rk_region ?_
      refine wl_p (fun _ => o_move rfl) ?_
      refine wl_p (fun _ => o_not rfl) ?_
      refine wl_nil ?_
      refine rk_true rfl ?_
      refine rk_seq ?_
      refine rk_region ?_
      refine wl_p (fun _ => o_assign rfl) ?_
      refine wl_nil ?_
      refine ret1 rfl rfl ?_
      exact ⟨by simp [okOp, goodS, h1], hw⟩
  · by_cases h1 : n = 0
    · by_cases h2 : m = 0
      · refine rk_seq ?_
        refine rk_region ?_
        refine wl_boxg _ rfl (by rfl) ?_
        rintro g1 w1 f1 b1 i1 i1_1
        have s1 := b1.size
        replace hw := hw.trans (b1.mono hw.size)
        refine wl_p (fun _ => o_assign rfl) ?_
        refine wl_nil ?_
        refine rk_seq ?_
        refine rk_region ?_
        refine wl_p (fun _ => o_faddr (s := 54) (i := 3) (off := 3) Tryz.underlying54 rfl Tryz.sizeOf42 rfl rfl rfl) ?_
        refine wl_r (o_ldWho rfl f1) ?_
        refine wl_p (fun _ => (o_zKey)) ?_
        refine wl_p (fun _ => (o_eqKy rfl rfl)) ?_
        refine wl_p (fun _ => o_assign rfl) ?_
        refine wl_nil ?_
        refine rk_seq ?_
        refine rk_region ?_
        refine wl_p (fun _ => o_assign rfl) ?_
        refine wl_nil ?_
        refine rk_seq ?_
        refine rk_seq ?_
        refine rk_region ?_
        refine wl_p (fun _ => o_faddr (s := 54) (i := 0) (off := 0) Tryz.underlying54 rfl Tryz.sizeOf3 rfl rfl rfl) ?_
        refine wl_r (o_loadbg Tryz.isAgg3 rfl f1 (by rfl)) ?_
        refine wl_nil ?_
        refine rk_block ?_
        refine rk_seq ?_
        refine rk_region ?_
        refine wl_p (fun _ => o_eq rfl rfl) ?_
        refine wl_p (fun _ => o_assign rfl) ?_
        refine wl_nil ?_
        refine rk_false rfl ?_
        refine rk_seq ?_
        refine rk_region ?_
        refine wl_p (fun _ => o_eq rfl rfl) ?_
        refine wl_p (fun _ => o_assign rfl) ?_
        refine wl_nil ?_
        refine rk_false rfl ?_
        refine rk_seq ?_
        refine rk_seq ?_
        refine rk_region ?_
        refine wl_p (fun _ => o_eq rfl rfl) ?_
        refine wl_p (fun _ => o_assign rfl) ?_
        refine wl_nil ?_
        refine rk_true rfl ?_
        refine rk_skip ?_
        refine rk_true rfl ?_
        refine rk_region ?_
        refine wl_p (fun _ => o_faddr (s := 54) (i := 1) (off := 1) Tryz.underlying54 rfl Tryz.sizeOf39 rfl rfl rfl) ?_
        refine wl_r (o_loadbg Tryz.isAgg39 rfl f1 (by rfl)) ?_
        refine wl_p (fun _ => o_len (t := 39) Tryz.underlying39 rfl) ?_
        refine wl_p (fun _ => o_eq rfl rfl) ?_
        refine wl_p (fun _ => o_move rfl) ?_
        refine wl_know 47 true rfl (decide_eq_true (by omega)) ?_
        refine wl_p (fun _ => o_faddr (s := 54) (i := 2) (off := 2) Tryz.underlying54 rfl Tryz.sizeOf39 rfl rfl rfl) ?_
        refine wl_r (o_loadbg Tryz.isAgg39 rfl f1 (by rfl)) ?_
        refine wl_p (fun _ => o_len (t := 39) Tryz.underlying39 rfl) ?_
        refine wl_p (fun _ => o_eq rfl rfl) ?_
        refine wl_p (fun _ => o_pick_t rfl rfl) ?_
        refine wl_p (fun _ => o_assign rfl) ?_
        refine wl_nil ?_
        refine rk_blk ?_
        refine rk_seq ?_
        refine rk_seq ?_
        refine rk_region ?_
        refine wl_p (fun _ => o_move rfl) ?_
        refine wl_p (fun _ => o_not rfl) ?_
        refine wl_nil ?_
        rw [show decide ((m : Int) = 0) = true from decide_eq_true (by omega)]
        refine rk_false rfl ?_
        refine rk_skip ?_
        refine rk_seq ?_
        refine rk_region ?_
        refine wl_p (fun _ => o_assign rfl) ?_
        refine wl_nil ?_
        refine ret1 rfl rfl ?_
        exact ⟨by simp [okOp, goodS, h1, h2], hw⟩
      · refine rk_seq ?_
        refine rk_region ?_
        refine wl_boxg _ rfl (by rfl) ?_
        rintro g1 w1 f1 b1 i1 i1_1
        have s1 := b1.size
        replace hw := hw.trans (b1.mono hw.size)
        refine wl_p (fun _ => o_assign rfl) ?_
        refine wl_nil ?_
        refine rk_seq ?_
        refine rk_region ?_
        refine wl_p (fun _ => o_faddr (s := 54) (i := 3) (off := 3) Tryz.underlying54 rfl Tryz.sizeOf42 rfl rfl rfl) ?_
        refine wl_r (o_ldWho rfl f1) ?_
        refine wl_p (fun _ => (o_zKey)) ?_
        refine wl_p (fun _ => (o_eqKy rfl rfl)) ?_
        refine wl_p (fun _ => o_assign rfl) ?_
        refine wl_nil ?_
        refine rk_seq ?_
        refine rk_region ?_
        refine wl_p (fun _ => o_assign rfl) ?_
        refine wl_nil ?_
        refine rk_seq ?_
        refine rk_seq ?_
        refine rk_region ?_
        refine wl_p (fun _ => o_faddr (s := 54) (i := 0) (off := 0) Tryz.underlying54 rfl Tryz.sizeOf3 rfl rfl rfl) ?_
        refine wl_r (o_loadbg Tryz.isAgg3 rfl f1 (by rfl)) ?_
        refine wl_nil ?_
        refine rk_block ?_
        refine rk_seq ?_
        refine rk_region ?_
        refine wl_p (fun _ => o_eq rfl rfl) ?_
        refine wl_p (fun _ => o_assign rfl) ?_
        refine wl_nil ?_
        refine rk_false rfl ?_
        refine rk_seq ?_
        refine rk_region ?_
        refine wl_p (fun _ => o_eq rfl rfl) ?_
        refine wl_p (fun _ => o_assign rfl) ?_
        refine wl_nil ?_
        refine rk_false rfl ?_
        refine rk_seq ?_
        refine rk_seq ?_
        refine rk_region ?_
        refine wl_p (fun _ => o_eq rfl rfl) ?_
        refine wl_p (fun _ => o_assign rfl) ?_
        refine wl_nil ?_
        refine rk_true rfl ?_
        refine rk_skip ?_
        refine rk_true rfl ?_
        refine rk_region ?_
        refine wl_p (fun _ => o_faddr (s := 54) (i := 1) (off := 1) Tryz.underlying54 rfl Tryz.sizeOf39 rfl rfl rfl) ?_
        refine wl_r (o_loadbg Tryz.isAgg39 rfl f1 (by rfl)) ?_
        refine wl_p (fun _ => o_len (t := 39) Tryz.underlying39 rfl) ?_
        refine wl_p (fun _ => o_eq rfl rfl) ?_
        refine wl_p (fun _ => o_move rfl) ?_
        refine wl_know 47 true rfl (decide_eq_true (by omega)) ?_
        refine wl_p (fun _ => o_faddr (s := 54) (i := 2) (off := 2) Tryz.underlying54 rfl Tryz.sizeOf39 rfl rfl rfl) ?_
        refine wl_r (o_loadbg Tryz.isAgg39 rfl f1 (by rfl)) ?_
        refine wl_p (fun _ => o_len (t := 39) Tryz.underlying39 rfl) ?_
        refine wl_p (fun _ => o_eq rfl rfl) ?_
        refine wl_p (fun _ => o_pick_t rfl rfl) ?_
        refine wl_p (fun _ => o_assign rfl) ?_
        refine wl_nil ?_
        refine rk_blk ?_
        refine rk_seq ?_
        refine rk_seq ?_
        refine rk_region ?_
        refine wl_p (fun _ => o_move rfl) ?_
        refine wl_p (fun _ => o_not rfl) ?_
        refine wl_nil ?_
        rw [show decide ((m : Int) = 0) = false from decide_eq_false (by omega)]
        refine rk_true rfl ?_
        refine rk_seq ?_
        refine rk_region ?_
        refine wl_p (fun _ => o_assign rfl) ?_
        refine wl_nil ?_
        refine ret1 rfl rfl ?_
        exact ⟨by simp [okOp, goodS, h2], hw⟩
    · refine rk_seq ?_
      refine rk_region ?_
      refine wl_boxg _ rfl (by rfl) ?_
      rintro g1 w1 f1 b1 i1 i1_1
      have s1 := b1.size
      replace hw := hw.trans (b1.mono hw.size)
      refine wl_p (fun _ => o_assign rfl) ?_
      refine wl_nil ?_
      refine rk_seq ?_
      refine rk_region ?_
      refine wl_p (fun _ => o_faddr (s := 54) (i := 3) (off := 3) Tryz.underlying54 rfl Tryz.sizeOf42 rfl rfl rfl) ?_
      refine wl_r (o_ldWho rfl f1) ?_
      refine wl_p (fun _ => (o_zKey)) ?_
      refine wl_p (fun _ => (o_eqKy rfl rfl)) ?_
      refine wl_p (fun _ => o_assign rfl) ?_
      refine wl_nil ?_
      refine rk_seq ?_
      refine rk_region ?_
      refine wl_p (fun _ => o_assign rfl) ?_
      refine wl_nil ?_
      refine rk_seq ?_
      refine rk_seq ?_
      refine rk_region ?_
      refine wl_p (fun _ => o_faddr (s := 54) (i := 0) (off := 0) Tryz.underlying54 rfl Tryz.sizeOf3 rfl rfl rfl) ?_
      refine wl_r (o_loadbg Tryz.isAgg3 rfl f1 (by rfl)) ?_
      refine wl_nil ?_
      refine rk_block ?_
      refine rk_seq ?_
      refine rk_region ?_
      refine wl_p (fun _ => o_eq rfl rfl) ?_
      refine wl_p (fun _ => o_assign rfl) ?_
      refine wl_nil ?_
      refine rk_false rfl ?_
      refine rk_seq ?_
      refine rk_region ?_
      refine wl_p (fun _ => o_eq rfl rfl) ?_
      refine wl_p (fun _ => o_assign rfl) ?_
      refine wl_nil ?_
      refine rk_false rfl ?_
      refine rk_seq ?_
      refine rk_seq ?_
      refine rk_region ?_
      refine wl_p (fun _ => o_eq rfl rfl) ?_
      refine wl_p (fun _ => o_assign rfl) ?_
      refine wl_nil ?_
      refine rk_true rfl ?_
      refine rk_skip ?_
      refine rk_true rfl ?_
      refine rk_region ?_
      refine wl_p (fun _ => o_faddr (s := 54) (i := 1) (off := 1) Tryz.underlying54 rfl Tryz.sizeOf39 rfl rfl rfl) ?_
      refine wl_r (o_loadbg Tryz.isAgg39 rfl f1 (by rfl)) ?_
      refine wl_p (fun _ => o_len (t := 39) Tryz.underlying39 rfl) ?_
      refine wl_p (fun _ => o_eq rfl rfl) ?_
      refine wl_p (fun _ => o_move rfl) ?_
      refine wl_know 47 false rfl (decide_eq_false (by omega)) ?_
      refine wl_off ?_
      refine wl_off ?_
      refine wl_off ?_
      refine wl_off ?_
      refine wl_p (fun _ => o_pick_f rfl rfl) ?_
      refine wl_p (fun _ => o_assign rfl) ?_
      refine wl_nil ?_
      refine rk_blk ?_
      refine rk_seq ?_
      refine rk_seq ?_
      refine rk_region ?_
      refine wl_p (fun _ => o_move rfl) ?_
      refine wl_p (fun _ => o_not rfl) ?_
      refine wl_nil ?_
      refine rk_true rfl ?_
      refine rk_seq ?_
      refine rk_region ?_
      refine wl_p (fun _ => o_assign rfl) ?_
      refine wl_nil ?_
      refine ret1 rfl rfl ?_
      exact ⟨by simp [okOp, goodS, h1], hw⟩
  · by_cases h1 : n = 0
    · by_cases h2 : m = 0
      · refine rk_seq ?_
        refine rk_region ?_
        refine wl_boxg _ rfl (by rfl) ?_
        rintro g1 w1 f1 b1 i1 i1_1
        have s1 := b1.size
        replace hw := hw.trans (b1.mono hw.size)
        refine wl_p (fun _ => o_assign rfl) ?_
        refine wl_nil ?_
        refine rk_seq ?_
        refine rk_region ?_
        refine wl_p (fun _ => o_faddr (s := 54) (i := 3) (off := 3) Tryz.underlying54 rfl Tryz.sizeOf42 rfl rfl rfl) ?_
        refine wl_r (o_ldWho rfl f1) ?_
        refine wl_p (fun _ => (o_zKey)) ?_
        refine wl_p (fun _ => (o_eqKy rfl rfl)) ?_
        refine wl_p (fun _ => o_assign rfl) ?_
        refine wl_nil ?_
        refine rk_seq ?_
        refine rk_region ?_
        refine wl_p (fun _ => o_assign rfl) ?_
        refine wl_nil ?_
        refine rk_seq ?_
        refine rk_seq ?_
        refine rk_region ?_
        refine wl_p (fun _ => o_faddr (s := 54) (i := 0) (off := 0) Tryz.underlying54 rfl Tryz.sizeOf3 rfl rfl rfl) ?_
        refine wl_r (o_loadbg Tryz.isAgg3 rfl f1 (by rfl)) ?_
        refine wl_nil ?_
        refine rk_block ?_
        refine rk_seq ?_
        refine rk_region ?_
        refine wl_p (fun _ => o_eq rfl rfl) ?_
        refine wl_p (fun _ => o_assign rfl) ?_
        refine wl_nil ?_
        refine rk_false rfl ?_
        refine rk_seq ?_
        refine rk_region ?_
        refine wl_p (fun _ => o_eq rfl rfl) ?_
        refine wl_p (fun _ => o_assign rfl) ?_
        refine wl_nil ?_
        refine rk_false rfl ?_
        refine rk_seq ?_
        refine rk_seq ?_
        refine rk_region ?_
        refine wl_p (fun _ => o_eq rfl rfl) ?_
        refine wl_p (fun _ => o_assign rfl) ?_
        refine wl_nil ?_
        refine rk_false rfl ?_
        refine rk_seq ?_
        refine rk_region ?_
        refine wl_p (fun _ => o_eq rfl rfl) ?_
        refine wl_p (fun _ => o_assign rfl) ?_
        refine wl_nil ?_
        refine rk_true rfl ?_
        refine rk_skip ?_
        refine rk_true rfl ?_
        refine rk_region ?_
        refine wl_p (fun _ => o_faddr (s := 54) (i := 1) (off := 1) Tryz.underlying54 rfl Tryz.sizeOf39 rfl rfl rfl) ?_
        refine wl_r (o_loadbg Tryz.isAgg39 rfl f1 (by rfl)) ?_
        refine wl_p (fun _ => o_len (t := 39) Tryz.underlying39 rfl) ?_
        refine wl_p (fun _ => o_eq rfl rfl) ?_
        refine wl_p (fun _ => o_move rfl) ?_
        refine wl_know 47 true rfl (decide_eq_true (by omega)) ?_
        refine wl_p (fun _ => o_faddr (s := 54) (i := 2) (off := 2) Tryz.underlying54 rfl Tryz.sizeOf39 rfl rfl rfl) ?_
        refine wl_r (o_loadbg Tryz.isAgg39 rfl f1 (by rfl)) ?_
        refine wl_p (fun _ => o_len (t := 39) Tryz.underlying39 rfl) ?_
        refine wl_p (fun _ => o_eq rfl rfl) ?_
        refine wl_p (fun _ => o_pick_t rfl rfl) ?_
        refine wl_p (fun _ => o_assign rfl) ?_
        refine wl_nil ?_
        refine rk_blk ?_
        refine rk_seq ?_
        refine rk_seq ?_
        refine rk_region ?_
        refine wl_p (fun _ => o_move rfl) ?_
        refine wl_p (fun _ => o_not rfl) ?_
        refine wl_nil ?_
        rw [show decide ((m : Int) = 0) = true from decide_eq_true (by omega)]
        refine rk_false rfl ?_
        refine rk_skip ?_
        refine rk_seq ?_
        refine rk_region ?_
        refine wl_p (fun _ => o_assign rfl) ?_
        refine wl_nil ?_
        refine ret1 rfl rfl ?_
        exact ⟨by simp [okOp, goodS, h1, h2], hw⟩
      · refine rk_seq ?_
        refine rk_region ?_
        refine wl_boxg _ rfl (by rfl) ?_
        rintro g1 w1 f1 b1 i1 i1_1
        have s1 := b1.size
        replace hw := hw.trans (b1.mono hw.size)
        refine wl_p (fun _ => o_assign rfl) ?_
        refine wl_nil ?_
        refine rk_seq ?_
        refine rk_region ?_
        refine wl_p (fun _ => o_faddr (s := 54) (i := 3) (off := 3) Tryz.underlying54 rfl Tryz.sizeOf42 rfl rfl rfl) ?_
        refine wl_r (o_ldWho rfl f1) ?_
        refine wl_p (fun _ => (o_zKey)) ?_
        refine wl_p (fun _ => (o_eqKy rfl rfl)) ?_
        refine wl_p (fun _ => o_assign rfl) ?_
        refine wl_nil ?_
        refine rk_seq ?_
        refine rk_region ?_
        refine wl_p (fun _ => o_assign rfl) ?_
        refine wl_nil ?_
        refine rk_seq ?_
        refine rk_seq ?_
        refine rk_region ?_
        refine wl_p (fun _ => o_faddr (s := 54) (i := 0) (off := 0) Tryz.underlying54 rfl Tryz.sizeOf3 rfl rfl rfl) ?_
        refine wl_r (o_loadbg Tryz.isAgg3 rfl f1 (by rfl)) ?_
        refine wl_nil ?_
        refine rk_block ?_
        refine rk_seq ?_
        refine rk_region ?_
        refine wl_p (fun _ => o_eq rfl rfl) ?_
        refine wl_p (fun _ => o_assign rfl) ?_
        refine wl_nil ?_
        refine rk_false rfl ?_
        refine rk_seq ?_
        refine rk_region ?_
        refine wl_p (fun _ => o_eq rfl rfl) ?_
        refine wl_p (fun _ => o_assign rfl) ?_
        refine wl_nil ?_
        refine rk_false rfl ?_
        refine rk_seq ?_
        refine rk_seq ?_
        refine rk_region ?_
        refine wl_p (fun _ => o_eq rfl rfl) ?_
        refine wl_p (fun _ => o_assign rfl) ?_
        refine wl_nil ?_
        refine rk_false rfl ?_
        refine rk_seq ?_
        refine rk_region ?_
        refine wl_p (fun _ => o_eq rfl rfl) ?_
        refine wl_p (fun _ => o_assign rfl) ?_
        refine wl_nil ?_
        refine rk_true rfl ?_
        refine rk_skip ?_
        refine rk_true rfl ?_
        refine rk_region ?_
        refine wl_p (fun _ => o_faddr (s := 54) (i := 1) (off := 1) Tryz.underlying54 rfl Tryz.sizeOf39 rfl rfl rfl) ?_
        refine wl_r (o_loadbg Tryz.isAgg39 rfl f1 (by rfl)) ?_
        refine wl_p (fun _ => o_len (t := 39) Tryz.underlying39 rfl) ?_
        refine wl_p (fun _ => o_eq rfl rfl) ?_
        refine wl_p (fun _ => o_move rfl) ?_
        refine wl_know 47 true rfl (decide_eq_true (by omega)) ?_
        refine wl_p (fun _ => o_faddr (s := 54) (i := 2) (off := 2) Tryz.underlying54 rfl Tryz.sizeOf39 rfl rfl rfl) ?_
        refine wl_r (o_loadbg Tryz.isAgg39 rfl f1 (by rfl)) ?_
        refine wl_p (fun _ => o_len (t := 39) Tryz.underlying39 rfl) ?_
        refine wl_p (fun _ => o_eq rfl rfl) ?_
        refine wl_p (fun _ => o_pick_t rfl rfl) ?_
        refine wl_p (fun _ => o_assign rfl) ?_
        refine wl_nil ?_
        refine rk_blk ?_
        refine rk_seq ?_
        refine rk_seq ?_
        refine rk_region ?_
        refine wl_p (fun _ => o_move rfl) ?_
        refine wl_p (fun _ => o_not rfl) ?_
        refine wl_nil ?_
        rw [show decide ((m : Int) = 0) = false from decide_eq_false (by omega)]
        refine rk_true rfl ?_
        refine rk_seq ?_
        refine rk_region ?_
        refine wl_p (fun _ => o_assign rfl) ?_
        refine wl_nil ?_
        refine ret1 rfl rfl ?_
        exact ⟨by simp [okOp, goodS, h2], hw⟩
    · refine rk_seq ?_
      refine rk_region ?_
      refine wl_boxg _ rfl (by rfl) ?_
      rintro g1 w1 f1 b1 i1 i1_1
      have s1 := b1.size
      replace hw := hw.trans (b1.mono hw.size)
      refine wl_p (fun _ => o_assign rfl) ?_
      refine wl_nil ?_
      refine rk_seq ?_
      refine rk_region ?_
      refine wl_p (fun _ => o_faddr (s := 54) (i := 3) (off := 3) Tryz.underlying54 rfl Tryz.sizeOf42 rfl rfl rfl) ?_
      refine wl_r (o_ldWho rfl f1) ?_
      refine wl_p (fun _ => (o_zKey)) ?_
      refine wl_p (fun _ => (o_eqKy rfl rfl)) ?_
      refine wl_p (fun _ => o_assign rfl) ?_
      refine wl_nil ?_
      refine rk_seq ?_
      refine rk_region ?_
      refine wl_p (fun _ => o_assign rfl) ?_
      refine wl_nil ?_
      refine rk_seq ?_
      refine rk_seq ?_
      refine rk_region ?_
      refine wl_p (fun _ => o_faddr (s := 54) (i := 0) (off := 0) Tryz.underlying54 rfl Tryz.sizeOf3 rfl rfl rfl) ?_
      refine wl_r (o_loadbg Tryz.isAgg3 rfl f1 (by rfl)) ?_
      refine wl_nil ?_
      refine rk_block ?_
      refine rk_seq ?_
      refine rk_region ?_
      refine wl_p (fun _ => o_eq rfl rfl) ?_
      refine wl_p (fun _ => o_assign rfl) ?_
      refine wl_nil ?_
      refine rk_false rfl ?_
      refine rk_seq ?_
      refine rk_region ?_
      refine wl_p (fun _ => o_eq rfl rfl) ?_
      refine wl_p (fun _ => o_assign rfl) ?_
      refine wl_nil ?_
      refine rk_false rfl ?_
      refine rk_seq ?_
      refine rk_seq ?_
      refine rk_region ?_
      refine wl_p (fun _ => o_eq rfl rfl) ?_
      refine wl_p (fun _ => o_assign rfl) ?_
      refine wl_nil ?_
      refine rk_false rfl ?_
      refine rk_seq ?_
      refine rk_region ?_
      refine wl_p (fun _ => o_eq rfl rfl) ?_
      refine wl_p (fun _ => o_assign rfl) ?_
      refine wl_nil ?_
      refine rk_true rfl ?_
      refine rk_skip ?_
      refine rk_true rfl ?_
      refine rk_region ?_
      refine wl_p (fun _ => o_faddr (s := 54) (i := 1) (off := 1) Tryz.underlying54 rfl Tryz.sizeOf39 rfl rfl rfl) ?_
      refine wl_r (o_loadbg Tryz.isAgg39 rfl f1 (by rfl)) ?_
      refine wl_p (fun _ => o_len (t := 39) Tryz.underlying39 rfl) ?_
      refine wl_p (fun _ => o_eq rfl rfl) ?_
      refine wl_p (fun _ => o_move rfl) ?_
      refine wl_know 47 false rfl (decide_eq_false (by omega)) ?_
      refine wl_off ?_
      refine wl_off ?_
      refine wl_off ?_
      refine wl_off ?_
      refine wl_p (fun _ => o_pick_f rfl rfl) ?_
      refine wl_p (fun _ => o_assign rfl) ?_
      refine wl_nil ?_
      refine rk_blk ?_
      refine rk_seq ?_
      refine rk_seq ?_
      refine rk_region ?_
      refine wl_p (fun _ => o_move rfl) ?_
      refine wl_p (fun _ => o_not rfl) ?_
      refine wl_nil ?_
      refine rk_true rfl ?_
      refine rk_seq ?_
      refine rk_region ?_
      refine wl_p (fun _ => o_assign rfl) ?_
      refine wl_nil ?_
      refine ret1 rfl rfl ?_
      exact ⟨by simp [okOp, goodS, h1], hw⟩
  · by_cases h1 : n = 0
    · by_cases h2 : m = 0
      · refine rk_seq ?_
        refine rk_region ?_
        refine wl_boxg _ rfl (by rfl) ?_
        rintro g1 w1 f1 b1 i1 i1_1
        have s1 := b1.size
        replace hw := hw.trans (b1.mono hw.size)
        refine wl_p (fun _ => o_assign rfl) ?_
        refine wl_nil ?_
        refine rk_seq ?_
        refine rk_region ?_
        refine wl_p (fun _ => o_faddr (s := 54) (i := 3) (off := 3) Tryz.underlying54 rfl Tryz.sizeOf42 rfl rfl rfl) ?_
        refine wl_r (o_ldWho rfl f1) ?_
        refine wl_p (fun _ => (o_zKey)) ?_
        refine wl_p (fun _ => (o_eqKy rfl rfl)) ?_
        refine wl_p (fun _ => o_assign rfl) ?_
        refine wl_nil ?_
        refine rk_seq ?_
        refine rk_region ?_
        refine wl_p (fun _ => o_assign rfl) ?_
        refine wl_nil ?_
        refine rk_seq ?_
        refine rk_seq ?_
        refine rk_region ?_
        refine wl_p (fun _ => o_faddr (s := 54) (i := 0) (off := 0) Tryz.underlying54 rfl Tryz.sizeOf3 rfl rfl rfl) ?_
        refine wl_r (o_loadbg Tryz.isAgg3 rfl f1 (by rfl)) ?_
        refine wl_nil ?_
        refine rk_block ?_
        refine rk_seq ?_
        refine rk_region ?_
        refine wl_p (fun _ => o_eq rfl rfl) ?_
        refine wl_p (fun _ => o_assign rfl) ?_
        refine wl_nil ?_
        refine rk_false rfl ?_
        refine rk_seq ?_
        refine rk_region ?_
        refine wl_p (fun _ => o_eq rfl rfl) ?_
        refine wl_p (fun _ => o_assign rfl) ?_
        refine wl_nil ?_
        refine rk_false rfl ?_
        refine rk_seq ?_
        refine rk_seq ?_
        refine rk_region ?_
        refine wl_p (fun _ => o_eq rfl rfl) ?_
        refine wl_p (fun _ => o_assign rfl) ?_
        refine wl_nil ?_
        refine rk_false rfl ?_
        refine rk_seq ?_
        refine rk_region ?_
        refine wl_p (fun _ => o_eq rfl rfl) ?_
        refine wl_p (fun _ => o_assign rfl) ?_
        refine wl_nil ?_
        refine rk_false rfl ?_
        refine rk_seq ?_
        refine rk_region ?_
        refine wl_p (fun _ => o_eq rfl rfl) ?_
        refine wl_p (fun _ => o_assign rfl) ?_
        refine wl_nil ?_
        refine rk_true rfl ?_
        refine rk_skip ?_
        refine rk_true rfl ?_
        refine rk_region ?_
        refine wl_p (fun _ => o_faddr (s := 54) (i := 1) (off := 1) Tryz.underlying54 rfl Tryz.sizeOf39 rfl rfl rfl) ?_
        refine wl_r (o_loadbg Tryz.isAgg39 rfl f1 (by rfl)) ?_
        refine wl_p (fun _ => o_len (t := 39) Tryz.underlying39 rfl) ?_
        refine wl_p (fun _ => o_eq rfl rfl) ?_
        refine wl_p (fun _ => o_move rfl) ?_
        refine wl_know 47 true rfl (decide_eq_true (by omega)) ?_
        refine wl_p (fun _ => o_faddr (s := 54) (i := 2) (off := 2) Tryz.underlying54 rfl Tryz.sizeOf39 rfl rfl rfl) ?_
        refine wl_r (o_loadbg Tryz.isAgg39 rfl f1 (by rfl)) ?_
        refine wl_p (fun _ => o_len (t := 39) Tryz.underlying39 rfl) ?_
        refine wl_p (fun _ => o_eq rfl rfl) ?_
        refine wl_p (fun _ => o_pick_t rfl rfl) ?_
        refine wl_p (fun _ => o_assign rfl) ?_
        refine wl_nil ?_
        refine rk_blk ?_
        refine rk_seq ?_
        refine rk_seq ?_
        refine rk_region ?_
        refine wl_p (fun _ => o_move rfl) ?_
        refine wl_p (fun _ => o_not rfl) ?_
        refine wl_nil ?_
        rw [show decide ((m : Int) = 0) = true from decide_eq_true (by omega)]
        refine rk_false rfl ?_
        refine rk_skip ?_
        refine rk_seq ?_
        refine rk_region ?_
        refine wl_p (fun _ => o_assign rfl) ?_
        refine wl_nil ?_
        refine ret1 rfl rfl ?_
        exact ⟨by simp [okOp, goodS, h1, h2], hw⟩
      · refine rk_seq ?_
        refine rk_region ?_
        refine wl_boxg _ rfl (by rfl) ?_
        rintro g1 w1 f1 b1 i1 i1_1
        have s1 := b1.size
        replace hw := hw.trans (b1.mono hw.size)
        refine wl_p (fun _ => o_assign rfl) ?_
        refine wl_nil ?_
        refine rk_seq ?_
        refine rk_region ?_
        refine wl_p (fun _ => o_faddr (s := 54) (i := 3) (off := 3) Tryz.underlying54 rfl Tryz.sizeOf42 rfl rfl rfl) ?_
        refine wl_r (o_ldWho rfl f1) ?_
        refine wl_p (fun _ => (o_zKey)) ?_
        refine wl_p (fun _ => (o_eqKy rfl rfl)) ?_
        refine wl_p (fun _ => o_assign rfl) ?_
        refine wl_nil ?_
        refine rk_seq ?_
        refine rk_region ?_
        refine wl_p (fun _ => o_assign rfl) ?_
        refine wl_nil ?_
        refine rk_seq ?_
        refine rk_seq ?_
        refine rk_region ?_
        refine wl_p (fun _ => o_faddr (s := 54) (i := 0) (off := 0) Tryz.underlying54 rfl Tryz.sizeOf3 rfl rfl rfl) ?_
        refine wl_r (o_loadbg Tryz.isAgg3 rfl f1 (by rfl)) ?_
        refine wl_nil ?_
        refine rk_block ?_
        refine rk_seq ?_
        refine rk_region ?_
        refine wl_p (fun _ => o_eq rfl rfl) ?_
        refine wl_p (fun _ => o_assign rfl) ?_
        refine wl_nil ?_
        refine rk_false rfl ?_
        refine rk_seq ?_
        refine rk_region ?_
        refine wl_p (fun _ => o_eq rfl rfl) ?_
        refine wl_p (fun _ => o_assign rfl) ?_
        refine wl_nil ?_
        refine rk_false rfl ?_
        refine rk_seq ?_
        refine rk_seq ?_
        refine rk_region ?_
        refine wl_p (fun _ => o_eq rfl rfl) ?_
        refine wl_p (fun _ => o_assign rfl) ?_
        refine wl_nil ?_
        refine rk_false rfl ?_
        refine rk_seq ?_
        refine rk_region ?_
        refine wl_p (fun _ => o_eq rfl rfl) ?_
        refine wl_p (fun _ => o_assign rfl) ?_
        refine wl_nil ?_
        refine rk_false rfl ?_
        refine rk_seq ?_
        refine rk_region ?_
        refine wl_p (fun _ => o_eq rfl rfl) ?_
        refine wl_p (fun _ => o_assign rfl) ?_
        refine wl_nil ?_
        refine rk_true rfl ?_
        refine rk_skip ?_
        refine rk_true rfl ?_
        refine rk_region ?_
        refine wl_p (fun _ => o_faddr (s := 54) (i := 1) (off := 1) Tryz.underlying54 rfl Tryz.sizeOf39 rfl rfl rfl) ?_
        refine wl_r (o_loadbg Tryz.isAgg39 rfl f1 (by rfl)) ?_
        refine wl_p (fun _ => o_len (t := 39) Tryz.underlying39 rfl) ?_
        refine wl_p (fun _ => o_eq rfl rfl) ?_
        refine wl_p (fun _ => o_move rfl) ?_
        refine wl_know 47 true rfl (decide_eq_true (by omega)) ?_
        refine wl_p (fun _ => o_faddr (s := 54) (i := 2) (off := 2) Tryz.underlying54 rfl Tryz.sizeOf39 rfl rfl rfl) ?_
        refine wl_r (o_loadbg Tryz.isAgg39 rfl f1 (by rfl)) ?_
        refine wl_p (fun _ => o_len (t := 39) Tryz.underlying39 rfl) ?_
        refine wl_p (fun _ => o_eq rfl rfl) ?_
        refine wl_p (fun _ => o_pick_t rfl rfl) ?_
        refine wl_p (fun _ => o_assign rfl) ?_
        refine wl_nil ?_
        refine rk_blk ?_
        refine rk_seq ?_
        refine rk_seq ?_
        refine rk_region ?_
        refine wl_p (fun _ => o_move rfl) ?_
        refine wl_p (fun _ => o_not rfl) ?_
        refine wl_nil ?_
        rw [show decide ((m : Int) = 0) = false from decide_eq_false (by omega)]
        refine rk_true rfl ?_
        refine rk_seq ?_
        refine rk_region ?_
        refine wl_p (fun _ => o_assign rfl) ?_
        refine wl_nil ?_
        refine ret1 rfl rfl ?_
        exact ⟨by simp [okOp, goodS, h2], hw⟩
    · refine rk_seq ?_
      refine rk_region ?_
      refine wl_boxg _ rfl (by rfl) ?_
      rintro g1 w1 f1 b1 i1 i1_1
      have s1 := b1.size
      replace hw := hw.trans (b1.mono hw.size)
      refine wl_p (fun _ => o_assign rfl) ?_
      refine wl_nil ?_
      refine rk_seq ?_
      refine rk_region ?_
      refine wl_p (fun _ => o_faddr (s := 54) (i := 3) (off := 3) Tryz.underlying54 rfl Tryz.sizeOf42 rfl rfl rfl) ?_
      refine wl_r (o_ldWho rfl f1) ?_
      refine wl_p (fun _ => (o_zKey)) ?_
      refine wl_p (fun _ => (o_eqKy rfl rfl)) ?_
      refine wl_p (fun _ => o_assign rfl) ?_
      refine wl_nil ?_
      refine rk_seq ?_
      refine rk_region ?_
      refine wl_p (fun _ => o_assign rfl) ?_
      refine wl_nil ?_
      refine rk_seq ?_
      refine rk_seq ?_
      refine rk_region ?_
      refine wl_p (fun _ => o_faddr (s := 54) (i := 0) (off := 0) Tryz.underlying54 rfl Tryz.sizeOf3 rfl rfl rfl) ?_
      refine wl_r (o_loadbg Tryz.isAgg3 rfl f1 (by rfl)) ?_
      refine wl_nil ?_
      refine rk_block ?_
      refine rk_seq ?_
      refine rk_region ?_
      refine wl_p (fun _ => o_eq rfl rfl) ?_
      refine wl_p (fun _ => o_assign rfl) ?_
      refine wl_nil ?_
      refine rk_false rfl ?_
      refine rk_seq ?_
      refine rk_region ?_
      refine wl_p (fun _ => o_eq rfl rfl) ?_
      refine wl_p (fun _ => o_assign rfl) ?_
      refine wl_nil ?_
      refine rk_false rfl ?_
      refine rk_seq ?_
      refine rk_seq ?_
      refine rk_region ?_
      refine wl_p (fun _ => o_eq rfl rfl) ?_
      refine wl_p (fun _ => o_assign rfl) ?_
      refine wl_nil ?_
      refine rk_false rfl ?_
      refine rk_seq ?_
      refine rk_region ?_
      refine wl_p (fun _ => o_eq rfl rfl) ?_
      refine wl_p (fun _ => o_assign rfl) ?_
      refine wl_nil ?_
      refine rk_false rfl ?_
      refine rk_seq ?_
      refine rk_region ?_
      refine wl_p (fun _ => o_eq rfl rfl) ?_
      refine wl_p (fun _ => o_assign rfl) ?_
      refine wl_nil ?_
      refine rk_true rfl ?_
      refine rk_skip ?_
      refine rk_true rfl ?_
      refine rk_region ?_
      refine wl_p (fun _ => o_faddr (s := 54) (i := 1) (off := 1) Tryz.underlying54 rfl Tryz.sizeOf39 rfl rfl rfl) ?_
      refine wl_r (o_loadbg Tryz.isAgg39 rfl f1 (by rfl)) ?_
      refine wl_p (fun _ => o_len (t := 39) Tryz.underlying39 rfl) ?_
      refine wl_p (fun _ => o_eq rfl rfl) ?_
      refine wl_p (fun _ => o_move rfl) ?_
      refine wl_know 47 false rfl (decide_eq_false (by omega)) ?_
      refine wl_off ?_
      refine wl_off ?_
      refine wl_off ?_
      refine wl_off ?_
      refine wl_p (fun _ => o_pick_f rfl rfl) ?_
      refine wl_p (fun _ => o_assign rfl) ?_
      refine wl_nil ?_
      refine rk_blk ?_
      refine rk_seq ?_
      refine rk_seq ?_
      refine rk_region ?_
      refine wl_p (fun _ => o_move rfl) ?_
      refine wl_p (fun _ => o_not rfl) ?_
      refine wl_nil ?_
      refine rk_true rfl ?_
      refine rk_seq ?_
      refine rk_region ?_
      refine wl_p (fun _ => o_assign rfl) ?_
      refine wl_nil ?_
      refine ret1 rfl rfl ?_
      exact ⟨by simp [okOp, goodS, h1], hw⟩
  · by_cases h1 : n = 0
    · by_cases h2 : m = 0
      · refine rk_seq ?_
        refine rk_region ?_
        refine wl_boxg _ rfl (by rfl) ?_
        rintro g1 w1 f1 b1 i1 i1_1
        have s1 := b1.size
        replace hw := hw.trans (b1.mono hw.size)
        refine wl_p (fun _ => o_assign rfl) ?_
        refine wl_nil ?_
        refine rk_seq ?_
        refine rk_region ?_
        refine wl_p (fun _ => o_faddr (s := 54) (i := 3) (off := 3) Tryz.underlying54 rfl Tryz.sizeOf42 rfl rfl rfl) ?_
        refine wl_r (o_ldWho rfl f1) ?_
        refine wl_p (fun _ => (o_zKey)) ?_
        refine wl_p (fun _ => (o_eqKy rfl rfl)) ?_
        refine wl_p (fun _ => o_assign rfl) ?_
        refine wl_nil ?_
        refine rk_seq ?_
        refine rk_region ?_
        refine wl_p (fun _ => o_assign rfl) ?_
        refine wl_nil ?_
        refine rk_seq ?_
        refine rk_seq ?_
        refine rk_region ?_
        refine wl_p (fun _ => o_faddr (s := 54) (i := 0) (off := 0) Tryz.underlying54 rfl Tryz.sizeOf3 rfl rfl rfl) ?_
        refine wl_r (o_loadbg Tryz.isAgg3 rfl f1 (by rfl)) ?_
        refine wl_nil ?_
        refine rk_block ?_
        refine rk_seq ?_
        refine rk_region ?_
        refine wl_p (fun _ => o_eq rfl rfl) ?_
        refine wl_p (fun _ => o_assign rfl) ?_
        refine wl_nil ?_
        refine rk_false rfl ?_
        refine rk_seq ?_
        refine rk_region ?_
        refine wl_p (fun _ => o_eq rfl rfl) ?_
        refine wl_p (fun _ => o_assign rfl) ?_
        refine wl_nil ?_
        refine rk_false rfl ?_
        refine rk_seq ?_
        refine rk_seq ?_
        refine rk_region ?_
        refine wl_p (fun _ => o_eq rfl rfl) ?_
        refine wl_p (fun _ => o_assign rfl) ?_
        refine wl_nil ?_
        refine rk_false rfl ?_
        refine rk_seq ?_
        refine rk_region ?_
        refine wl_p (fun _ => o_eq rfl rfl) ?_
        refine wl_p (fun _ => o_assign rfl) ?_
        refine wl_nil ?_
        refine rk_false rfl ?_
        refine rk_seq ?_
        refine rk_region ?_
        refine wl_p (fun _ => o_eq rfl rfl) ?_
        refine wl_p (fun _ => o_assign rfl) ?_
        refine wl_nil ?_
        refine rk_false rfl ?_
        refine rk_region ?_
        refine wl_p (fun _ => o_eq rfl rfl) ?_
        refine wl_p (fun _ => o_assign rfl) ?_
        refine wl_nil ?_
        refine rk_true rfl ?_
        refine rk_region ?_
        refine wl_p (fun _ => o_faddr (s := 54) (i := 1) (off := 1) Tryz.underlying54 rfl Tryz.sizeOf39 rfl rfl rfl) ?_
        refine wl_r (o_loadbg Tryz.isAgg39 rfl f1 (by rfl)) ?_
        refine wl_p (fun _ => o_len (t := 39) Tryz.underlying39 rfl) ?_
        refine wl_p (fun _ => o_eq rfl rfl) ?_
        refine wl_p (fun _ => o_move rfl) ?_
        refine wl_know 47 true rfl (decide_eq_true (by omega)) ?_
        refine wl_p (fun _ => o_faddr (s := 54) (i := 2) (off := 2) Tryz.underlying54 rfl Tryz.sizeOf39 rfl rfl rfl) ?_
        refine wl_r (o_loadbg Tryz.isAgg39 rfl f1 (by rfl)) ?_
        refine wl_p (fun _ => o_len (t := 39) Tryz.underlying39 rfl) ?_
        refine wl_p (fun _ => o_eq rfl rfl) ?_
        refine wl_p (fun _ => o_pick_t rfl rfl) ?_
        refine wl_p (fun _ => o_assign rfl) ?_
        refine wl_nil ?_
        refine rk_blk ?_
        refine rk_seq ?_
        refine rk_seq ?_
        refine rk_region ?_
        refine wl_p (fun _ => o_move rfl) ?_
        refine wl_p (fun _ => o_not rfl) ?_
        refine wl_nil ?_
        rw [show decide ((m : Int) = 0) = true from decide_eq_true (by omega)]
        refine rk_false rfl ?_
        refine rk_skip ?_
        refine rk_seq ?_
        refine rk_region ?_
        refine wl_p (fun _ => o_assign rfl) ?_
        refine wl_nil ?_
        refine ret1 rfl rfl ?_
        exact ⟨by simp [okOp, goodS, h1, h2], hw⟩
      · refine rk_seq ?_
        refine rk_region ?_
        refine wl_boxg _ rfl (by rfl) ?_
        rintro g1 w1 f1 b1 i1 i1_1
        have s1 := b1.size
        replace hw := hw.trans (b1.mono hw.size)
        refine wl_p (fun _ => o_assign rfl) ?_
        refine wl_nil ?_
        refine rk_seq ?_
        refine rk_region ?_
        refine wl_p (fun _ => o_faddr (s := 54) (i := 3) (off := 3) Tryz.underlying54 rfl Tryz.sizeOf42 rfl rfl rfl) ?_
        refine wl_r (o_ldWho rfl f1) ?_
        refine wl_p (fun _ => (o_zKey)) ?_
        refine wl_p (fun _ => (o_eqKy rfl rfl)) ?_
        refine wl_p (fun _ => o_assign rfl) ?_
        refine wl_nil ?_
        refine rk_seq ?_
        refine rk_region ?_
        refine wl_p (fun _ => o_assign rfl) ?_
        refine wl_nil ?_
        refine rk_seq ?_
        refine rk_seq ?_
        refine rk_region ?_
        refine wl_p (fun _ => o_faddr (s := 54) (i := 0) (off := 0) Tryz.underlying54 rfl Tryz.sizeOf3 rfl rfl rfl) ?_
        refine wl_r (o_loadbg Tryz.isAgg3 rfl f1 (by rfl)) ?_
        refine wl_nil ?_
        refine rk_block ?_
        refine rk_seq ?_
        refine rk_region ?_
        refine wl_p (fun _ => o_eq rfl rfl) ?_
        refine wl_p (fun _ => o_assign rfl) ?_
        refine wl_nil ?_
        refine rk_false rfl ?_
        refine rk_seq ?_
        refine rk_region ?_
        refine wl_p (fun _ => o_eq rfl rfl) ?_
        refine wl_p (fun _ => o_assign rfl) ?_
        refine wl_nil ?_
        refine rk_false rfl ?_
        refine rk_seq ?_
        refine rk_seq ?_
        refine rk_region ?_
        refine wl_p (fun _ => o_eq rfl rfl) ?_
        refine wl_p (fun _ => o_assign rfl) ?_
        refine wl_nil ?_
        refine rk_false rfl ?_
        refine rk_seq ?_
        refine rk_region ?_
        refine wl_p (fun _ => o_eq rfl rfl) ?_
        refine wl_p (fun _ => o_assign rfl) ?_
        refine wl_nil ?_
        refine rk_false rfl ?_
        refine rk_seq ?_
        refine rk_region ?_
        refine wl_p (fun _ => o_eq rfl rfl) ?_
        refine wl_p (fun _ => o_assign rfl) ?_
        refine wl_nil ?_
        refine rk_false rfl ?_
        refine rk_region ?_
        refine wl_p (fun _ => o_eq rfl rfl) ?_
        refine wl_p (fun _ => o_assign rfl) ?_
        refine wl_nil ?_
        refine rk_true rfl ?_
        refine rk_region ?_
        refine wl_p (fun _ => o_faddr (s := 54) (i := 1) (off := 1) Tryz.underlying54 rfl Tryz.sizeOf39 rfl rfl rfl) ?_
        refine wl_r (o_loadbg Tryz.isAgg39 rfl f1 (by rfl)) ?_
        refine wl_p (fun _ => o_len (t := 39) Tryz.underlying39 rfl) ?_
        refine wl_p (fun _ => o_eq rfl rfl) ?_
        refine wl_p (fun _ => o_move rfl) ?_
        refine wl_know 47 true rfl (decide_eq_true (by omega)) ?_
        refine wl_p (fun _ => o_faddr (s := 54) (i := 2) (off := 2) Tryz.underlying54 rfl Tryz.sizeOf39 rfl rfl rfl) ?_
        refine wl_r (o_loadbg Tryz.isAgg39 rfl f1 (by rfl)) ?_
        refine wl_p (fun _ => o_len (t := 39) Tryz.underlying39 rfl) ?_
        refine wl_p (fun _ => o_eq rfl rfl) ?_
        refine wl_p (fun _ => o_pick_t rfl rfl) ?_
        refine wl_p (fun _ => o_assign rfl) ?_
        refine wl_nil ?_
        refine rk_blk ?_
        refine rk_seq ?_
        refine rk_seq ?_
        refine rk_region ?_
        refine wl_p (fun _ => o_move rfl) ?_
        refine wl_p (fun _ => o_not rfl) ?_
        refine wl_nil ?_
        rw [show decide ((m : Int) = 0) = false from decide_eq_false (by omega)]
        refine rk_true rfl ?_
        refine rk_seq ?_
        refine rk_region ?_
        refine wl_p (fun _ => o_assign rfl) ?_
        refine wl_nil ?_
        refine ret1 rfl rfl ?_
        exact ⟨by simp [okOp, goodS, h2], hw⟩
    · refine rk_seq ?_
      refine rk_region ?_
      refine wl_boxg _ rfl (by rfl) ?_
      rintro g1 w1 f1 b1 i1 i1_1
      have s1 := b1.size
      replace hw := hw.trans (b1.mono hw.size)
      refine wl_p (fun _ => o_assign rfl) ?_
      refine wl_nil ?_
      refine rk_seq ?_
      refine rk_region ?_
      refine wl_p (fun _ => o_faddr (s := 54) (i := 3) (off := 3) Tryz.underlying54 rfl Tryz.sizeOf42 rfl rfl rfl) ?_
      refine wl_r (o_ldWho rfl f1) ?_
      refine wl_p (fun _ => (o_zKey)) ?_
      refine wl_p (fun _ => (o_eqKy rfl rfl)) ?_
      refine wl_p (fun _ => o_assign rfl) ?_
      refine wl_nil ?_
      refine rk_seq ?_
      refine rk_region ?_
      refine wl_p (fun _ => o_assign rfl) ?_
      refine wl_nil ?_
      refine rk_seq ?_
      refine rk_seq ?_
      refine rk_region ?_
      refine wl_p (fun _ => o_faddr (s := 54) (i := 0) (off := 0) Tryz.underlying54 rfl Tryz.sizeOf3 rfl rfl rfl) ?_
      refine wl_r (o_loadbg Tryz.isAgg3 rfl f1 (by rfl)) ?_
      refine wl_nil ?_
      refine rk_block ?_
      refine rk_seq ?_
      refine rk_region ?_
      refine wl_p (fun _ => o_eq rfl rfl) ?_
      refine wl_p (fun _ => o_assign rfl) ?_
      refine wl_nil ?_
      refine rk_false rfl ?_
      refine rk_seq ?_
      refine rk_region ?_
      refine wl_p (fun _ => o_eq rfl rfl) ?_
      refine wl_p (fun _ => o_assign rfl) ?_
      refine wl_nil ?_
      refine rk_false rfl ?_
      refine rk_seq ?_
      refine rk_seq ?_
      refine rk_region ?_
      refine wl_p (fun _ => o_eq rfl rfl) ?_
      refine wl_p (fun _ => o_assign rfl) ?_
      refine wl_nil ?_
      refine rk_false rfl ?_
      refine rk_seq ?_
      refine rk_region ?_
      refine wl_p (fun _ => o_eq rfl rfl) ?_
      refine wl_p (fun _ => o_assign rfl) ?_
      refine wl_nil ?_
      refine rk_false rfl ?_
      refine rk_seq ?_
      refine rk_region ?_
      refine wl_p (fun _ => o_eq rfl rfl) ?_
      refine wl_p (fun _ => o_assign rfl) ?_
      refine wl_nil ?_
      refine rk_false rfl ?_
      refine rk_region ?_
      refine wl_p (fun _ => o_eq rfl rfl) ?_
      refine wl_p (fun _ => o_assign rfl) ?_
      refine wl_nil ?_
      refine rk_true rfl ?_
      refine rk_region ?_
      refine wl_p (fun _ => o_faddr (s := 54) (i := 1) (off := 1) Tryz.underlying54 rfl Tryz.sizeOf39 rfl rfl rfl) ?_
      refine wl_r (o_loadbg Tryz.isAgg39 rfl f1 (by rfl)) ?_
      refine wl_p (fun _ => o_len (t := 39) Tryz.underlying39 rfl) ?_
      refine wl_p (fun _ => o_eq rfl rfl) ?_
      refine wl_p (fun _ => o_move rfl) ?_
      refine wl_know 47 false rfl (decide_eq_false (by omega)) ?_
      refine wl_off ?_
      refine wl_off ?_
      refine wl_off ?_
      refine wl_off ?_
      refine wl_p (fun _ => o_pick_f rfl rfl) ?_
      refine wl_p (fun _ => o_assign rfl) ?_
      refine wl_nil ?_
      refine rk_blk ?_
      refine rk_seq ?_
      refine rk_seq ?_
      refine rk_region ?_
      refine wl_p (fun _ => o_move rfl) ?_
      refine wl_p (fun _ => o_not rfl) ?_
      refine wl_nil ?_
      refine rk_true rfl ?_
      refine rk_seq ?_
      refine rk_region ?_
      refine wl_p (fun _ => o_assign rfl) ?_
      refine wl_nil ?_
      refine ret1 rfl rfl ?_
      exact ⟨by simp [okOp, goodS, h1], hw⟩
theorem C_r22CheckY {K V : Option Addr} {n c m d : Nat} {k : Int} {u : Ky} (w : World) (hn : n ≤ 4000000000) (hm : m ≤ 4000000000) (h : okOp k n m u = true) :
    CallsR Tryz.prog 62 [.agg (opC k K n c V m d u).toArray] w fun v w' => v = .int .i64 0 ∧ Below w.heap.size w w' := by
  have := C_r22Check (K := K) (V := V) (c := c) (d := d) (k := k) (u := u) w hn hm
  rwa [if_pos h] at this
theorem C_r22CheckN {K V : Option Addr} {n c m d : Nat} {k : Int} {u : Ky} (w : World) (hn : n ≤ 4000000000) (hm : m ≤ 4000000000) (h : okOp k n m u = false) :
    CallsR Tryz.prog 62 [.agg (opC k K n c V m d u).toArray] w fun v w' => v = .int .i64 2 ∧ Below w.heap.size w w' := by
  have := C_r22Check (K := K) (V := V) (c := c) (d := d) (k := k) (u := u) w hn hm
  rwa [if_neg (by rw [h]; decide)] at this
end Go.Proofs.YtahkeoegbjopfaaGreat
