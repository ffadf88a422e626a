/-
  Walks: do, Ints.
-/
import Derived.Test.YthkfjoilhoemmaaMg4
namespace Go.Proofs.Ythkfjoilhoemmaa
open Go.RowKit
theorem C_PickN {n m r : Int} (w : World) (hr : pick n m = r) (wn : (Lit.int .i64 n).wf = true) (wm : (Lit.int .i64 m).wf = true) :
    CallsR Try.prog 10 [.int .i64 n, .int .i64 m] w fun v w' => v = .int .i64 r ∧ w' = w := by
  subst hr
  exact C_Pick n m wn wm w
/-- What an act leaves. -/
def stepD (S : List Sec) (C : List (Option Sec)) (a : DAct) : List Sec × List (Option Sec) :=
  if pick a.1 5 = 0 then (S, C) else if pick a.1 5 = 3 then (cur S C, List.replicate S.length none) else if pick a.1 5 = 4 then (crash S C a.2.2.2.2, List.replicate S.length none) else (S, (wrC S C a.2.1 (actB a.2.2.1 a.2.2.2.1)).1)
set_option maxRecDepth 100000 in
theorem C_do {lo hi lo2 hi2 g n c : Nat} {S : List Sec} {C : List (Option Sec)} {k t x : Int} {b : UInt8} {lg : Bool} {K : Option Addr} {kp : List Bool} {r : List Sec × List (Option Sec)} (w : World) (hd : DkAt w lo hi g S C) (hK : RdBo w lo2 hi2 K kp) (hx : x = (b.toNat : Int)) (hr : stepD S C (k, t, b, lg, kp) = r) (hn : n = kp.length) (hl : kp.length ≤ 80) (w1 : (Lit.int .i64 k).wf = true) (w2 : (Lit.int .i64 t).wf = true) :
    CallsR Try.prog 22 [.pointer (some ⟨g, 0, none⟩), .agg #[.int .i64 k, .int .i64 t, .int .u8 x, .bool lg, .slice K n c]] w fun v w' => v = .tuple #[] ∧ DkAt w' lo hi g r.1 r.2 ∧ Chg lo hi w w' := by
  subst hx; subst hn; subst hr
  have hhi := hd.hi
  have wm : (Lit.int .i64 5).wf = true := by decide
  have hpk := pick_range k 5 (by omega)
  obtain ⟨p, hp⟩ : ∃ p, pick k 5 = p := ⟨_, rfl⟩
  rw [hp] at hpk
  have hst : stepD S C (k, t, b, lg, kp) = if p = 0 then (S, C) else if p = 3 then (cur S C, List.replicate S.length none) else if p = 4 then (crash S C kp, List.replicate S.length none) else (S, (wrC S C t (actB b lg)).1) := by rw [stepD]; simp only [hp]
  rw [hst]
  clear hst
  refine callsR Try.func22 rfl rfl (by kernel_rfl) rfl ?_
  have hcg : Chg lo hi w w := Chg.refl
  by_cases h0 : p = 0
  · rw [if_pos h0]
    subst h0
    refine rk_seq ?_
    refine rk_region ?_
    refine wl_boxg [_, _, _, _, _] rfl (by rfl) ?_
    rintro g3 w3 f3 b3 i3 i3_1
    have s3 := b3.size
    replace hcg := hcg.thenB b3
    replace hK := hK.u b3
    replace hd := hd.u b3
    refine wl_nil ?_
    refine rk_seq ?_
    refine rk_region ?_
    refine wl_p (fun _ => o_faddr (s := 35) (i := 0) (off := 0) Try.underlying35 rfl Try.sizeOf3 rfl rfl rfl) ?_
    refine wl_r (o_loadbg Try.isAgg3 rfl f3 (by rfl)) ?_
    refine wl_call rfl (C_PickR _ hp w1 wm) ?_
    rintro v6 w6 ⟨rfl, b6⟩
    have s6 := b6.size
    replace hcg := hcg.thenB b6
    replace hd := hd.u b6
    replace hK := hK.u b6
    replace f3 := f3.u b6
    refine wl_nil ?_
    refine rk_block ?_
    refine rk_seq ?_
    refine rk_region ?_
    refine wl_p (fun _ => o_eq rfl rfl) ?_
    refine wl_p (fun _ => o_assign rfl) ?_
    refine wl_nil ?_
    refine rk_true rfl ?_
    refine rk_region ?_
    refine wl_p (fun _ => o_move rfl) ?_
    refine wl_p (fun _ => o_faddr (s := 35) (i := 1) (off := 1) Try.underlying35 rfl Try.sizeOf3 rfl rfl rfl) ?_
    refine wl_r (o_loadbg Try.isAgg3 rfl f3 (by rfl)) ?_
    refine wl_call rfl (C_dReadN _ hd (by rfl) w2) ?_
    rintro v18 w18 ⟨A18, ⟨c18, ⟨rfl, ⟨f18, ⟨i18, b18⟩⟩⟩⟩⟩
    have s18 := b18.size
    replace hcg := hcg.thenB b18
    replace f3 := f3.u b18
    replace hK := hK.u b18
    replace hd := hd.u b18
    refine wl_nil ?_
    refine rk_blk ?_
    refine end0 rfl ?_
    exact ⟨rfl, hd, hcg⟩
  · rw [if_neg h0]
    by_cases h3 : p = 3
    · rw [if_pos h3]
      subst h3
      refine rk_seq ?_
      refine rk_region ?_
      refine wl_boxg [_, _, _, _, _] rfl (by rfl) ?_
      rintro g3 w3 f3 b3 i3 i3_1
      have s3 := b3.size
      replace hcg := hcg.thenB b3
      replace hK := hK.u b3
      replace hd := hd.u b3
      refine wl_nil ?_
      refine rk_seq ?_
      refine rk_region ?_
      refine wl_p (fun _ => o_faddr (s := 35) (i := 0) (off := 0) Try.underlying35 rfl Try.sizeOf3 rfl rfl rfl) ?_
      refine wl_r (o_loadbg Try.isAgg3 rfl f3 (by rfl)) ?_
      refine wl_call rfl (C_PickR _ hp w1 wm) ?_
      rintro v6 w6 ⟨rfl, b6⟩
      have s6 := b6.size
      replace hcg := hcg.thenB b6
      replace hd := hd.u b6
      replace hK := hK.u b6
      replace f3 := f3.u b6
      refine wl_nil ?_
      refine rk_block ?_
      refine rk_seq ?_
      refine rk_region ?_
      refine wl_p (fun _ => o_eq rfl rfl) ?_
      refine wl_p (fun _ => o_assign rfl) ?_
      refine wl_nil ?_
      refine rk_false rfl ?_
      refine rk_seq ?_
      refine rk_region ?_
      refine wl_p (fun _ => o_eq rfl rfl) ?_
      refine wl_p (fun _ => o_assign rfl) ?_
      refine wl_nil ?_
      refine rk_true rfl ?_
      refine rk_region ?_
      refine wl_p (fun _ => o_move rfl) ?_
      refine wl_call rfl (C_dFlush _ hd (by rfl) (by rfl)) ?_
      rintro v22 w22 ⟨rfl, ⟨f22, g22⟩⟩
      have s22 := g22.size
      replace hcg := hcg.trans (g22.wide (by omega) (by omega))
      replace f3 := f3.c g22 (by omega)
      clear hK
      clear hd
      refine wl_nil ?_
      refine rk_blk ?_
      refine end0 rfl ?_
      exact ⟨rfl, f22, hcg⟩
    · rw [if_neg h3]
      by_cases h4 : p = 4
      · rw [if_pos h4]
        subst h4
        refine rk_seq ?_
        refine rk_region ?_
        refine wl_boxg [_, _, _, _, _] rfl (by rfl) ?_
        rintro g3 w3 f3 b3 i3 i3_1
        have s3 := b3.size
        replace hcg := hcg.thenB b3
        replace hK := hK.u b3
        replace hd := hd.u b3
        refine wl_nil ?_
        refine rk_seq ?_
        refine rk_region ?_
        refine wl_p (fun _ => o_faddr (s := 35) (i := 0) (off := 0) Try.underlying35 rfl Try.sizeOf3 rfl rfl rfl) ?_
        refine wl_r (o_loadbg Try.isAgg3 rfl f3 (by rfl)) ?_
        refine wl_call rfl (C_PickR _ hp w1 wm) ?_
        rintro v6 w6 ⟨rfl, b6⟩
        have s6 := b6.size
        replace hcg := hcg.thenB b6
        replace hd := hd.u b6
        replace hK := hK.u b6
        replace f3 := f3.u b6
        refine wl_nil ?_
        refine rk_block ?_
        refine rk_seq ?_
        refine rk_region ?_
        refine wl_p (fun _ => o_eq rfl rfl) ?_
        refine wl_p (fun _ => o_assign rfl) ?_
        refine wl_nil ?_
        refine rk_false rfl ?_
        refine rk_seq ?_
        refine rk_region ?_
        refine wl_p (fun _ => o_eq rfl rfl) ?_
        refine wl_p (fun _ => o_assign rfl) ?_
        refine wl_nil ?_
        refine rk_false rfl ?_
        refine rk_seq ?_
        refine rk_region ?_
        refine wl_p (fun _ => o_eq rfl rfl) ?_
        refine wl_p (fun _ => o_assign rfl) ?_
        refine wl_nil ?_
        refine rk_true rfl ?_
        refine rk_region ?_
        refine wl_p (fun _ => o_move rfl) ?_
        refine wl_litBo0 rfl ?_
        rintro A26 w26 f26 b26
        have qf26 := f26.cap
        have s26 := b26.size
        replace hcg := hcg.thenB b26
        replace f3 := f3.u b26
        replace hK := hK.u b26
        replace hd := hd.u b26
        refine wl_p (fun _ => o_faddr (s := 35) (i := 4) (off := 4) Try.underlying35 rfl Try.sizeOf31 rfl rfl rfl) ?_
        refine wl_r (o_loadbg Try.isAgg31 rfl f3 (by rfl)) ?_
        refine wl_appBo0 rfl f26 rfl hK (Below.refl _ _) rfl (by omega) (by omega) ?_
        rintro A29 c29 w29 f29 b29
        have qf29 := f29.cap
        have s29 := b29.size
        replace hcg := hcg.thenB b29
        replace hd := hd.u b29
        replace hK := hK.u b29
        replace f3 := f3.u b29
        replace f26 := f26.u b29
        refine wl_call rfl (C_dCrash _ hd f29.to_RdBo (by rfl) (by rfl) (by omega) rfl (by omega)) ?_
        rintro v30 w30 ⟨rfl, ⟨f30, g30⟩⟩
        have s30 := g30.size
        replace hcg := hcg.trans (g30.wide (by omega) (by omega))
        replace f26 := f26.c g30 (by omega)
        replace f3 := f3.c g30 (by omega)
        replace f29 := f29.c g30 (by omega)
        clear hK
        clear hd
        refine wl_nil ?_
        refine rk_blk ?_
        refine end0 rfl ?_
        exact ⟨rfl, f30, hcg⟩
      · rw [if_neg h4]
        obtain ⟨q, hq⟩ : ∃ q, actB b lg = q := ⟨_, rfl⟩
        obtain ⟨z, hz⟩ : ∃ z, wrC S C t q = z := ⟨_, rfl⟩
        rw [hq, hz]
        refine rk_seq ?_
        refine rk_region ?_
        refine wl_boxg [_, _, _, _, _] rfl (by rfl) ?_
        rintro g3 w3 f3 b3 i3 i3_1
        have s3 := b3.size
        replace hcg := hcg.thenB b3
        replace hK := hK.u b3
        replace hd := hd.u b3
        refine wl_nil ?_
        refine rk_seq ?_
        refine rk_region ?_
        refine wl_p (fun _ => o_faddr (s := 35) (i := 0) (off := 0) Try.underlying35 rfl Try.sizeOf3 rfl rfl rfl) ?_
        refine wl_r (o_loadbg Try.isAgg3 rfl f3 (by rfl)) ?_
        refine wl_call rfl (C_PickR _ hp w1 wm) ?_
        rintro v6 w6 ⟨rfl, b6⟩
        have s6 := b6.size
        replace hcg := hcg.thenB b6
        replace hd := hd.u b6
        replace hK := hK.u b6
        replace f3 := f3.u b6
        refine wl_nil ?_
        refine rk_block ?_
        refine rk_seq ?_
        refine rk_region ?_
        refine wl_p (fun _ => o_eq rfl rfl) ?_
        refine wl_p (fun _ => o_assign rfl) ?_
        refine wl_nil ?_
        refine rk_if rfl (fun h13 => absurd h13 (by omega)) (fun h13 => ?_)
        refine rk_seq ?_
        refine rk_region ?_
        refine wl_p (fun _ => o_eq rfl rfl) ?_
        refine wl_p (fun _ => o_assign rfl) ?_
        refine wl_nil ?_
        refine rk_if rfl (fun h19 => absurd h19 (by omega)) (fun h19 => ?_)
        refine rk_seq ?_
        refine rk_region ?_
        refine wl_p (fun _ => o_eq rfl rfl) ?_
        refine wl_p (fun _ => o_assign rfl) ?_
        refine wl_nil ?_
        refine rk_if rfl (fun h23 => absurd h23 (by omega)) (fun h23 => ?_)
        refine rk_draw (id := 2) (none) [0, 0, 2, 0, 8, 21] [0, 0, 2, 0, 8, 31] 48 16 [(.p, 0), (.p, 1), (.s, 2), (.r, 3), (.c, 4), (.l, 5)] (by kernel_rfl) (by kernel_rfl) (by kernel_rfl) (by kernel_rfl) (by kernel_rfl) ?_
        replace hcg := hcg.trans Chg.drew
        replace f3 := f3.d
        replace hK := hK.d
        replace hd := hd.d
        refine wl_p (fun _ => o_move rfl) ?_
        refine wl_p (fun _ => o_faddr (s := 35) (i := 1) (off := 1) Try.underlying35 rfl Try.sizeOf3 rfl rfl rfl) ?_
        refine wl_s (fun _ hk => (o_loadbg Try.isAgg3 rfl (f3.u (below_of_grown_none hk)) (by rfl))) ?_
        refine wl_r (o_loadag Try.isAgg35 Try.sizeOf35 rfl f3 (by rfl)) ?_
        refine wl_call rfl (C_actBytes _ (by rfl) hq) ?_ (hq := .inr fun _ _ h => grown_of_below h.choose_spec.choose_spec.2.2.2 _)
        rintro v11 w11 ⟨A11, ⟨c11, ⟨rfl, ⟨f11, ⟨i11, b11⟩⟩⟩⟩⟩
        simp only [drew_size] at f11
        simp only [drew_size] at b11
        have qf11 := f11.cap
        have s11 := b11.size
        simp only [drew_size] at s11
        replace hcg := hcg.thenB b11
        replace hd := hd.u b11
        replace hK := hK.u b11
        replace f3 := f3.u b11
        refine wl_call rfl (C_dWriteN _ hd f11.to_Rd hz w2 rfl (by omega)) ?_
        rintro v12 w12 ⟨rfl, ⟨f12, g12⟩⟩
        have s12 := g12.size
        replace hcg := hcg.trans (g12.wide (by omega) (by omega))
        replace f3 := f3.c g12 (by omega)
        replace f11 := f11.c g12 (by omega)
        clear hK
        clear hd
        refine wl_nild ?_
        refine rk_blk ?_
        refine end0 rfl ?_
        exact ⟨rfl, f12, hcg⟩
theorem wrC_len (S : List Sec) (C : List (Option Sec)) (a : Int) (b : By) : (wrC S C a b).1.length = C.length := by
  unfold wrC; split <;> simp
theorem stepD_len (S : List Sec) (C : List (Option Sec)) (a : DAct) (h : C.length = S.length) : (stepD S C a).1.length = S.length ∧ (stepD S C a).2.length = S.length := by
  unfold stepD
  split
  · exact ⟨rfl, h⟩
  · split
    · exact ⟨cur_len _ _, by simp⟩
    · split
      · exact ⟨crash_len _ _ _, by simp⟩
      · exact ⟨rfl, by rw [wrC_len]; exact h⟩
def runD : List Sec → List (Option Sec) → List DAct → List Sec × List (Option Sec)
  | S, C, [] => (S, C)
  | S, C, a :: L => runD (stepD S C a).1 (stepD S C a).2 L
theorem runD_snoc : ∀ (S : List Sec) (C : List (Option Sec)) (L : List DAct) (a : DAct), runD S C (L ++ [a]) = stepD (runD S C L).1 (runD S C L).2 a
  | S, C, [], a => rfl
  | S, C, b :: L, a => by rw [List.cons_append, runD, runD_snoc _ _ L a]; rfl
set_option maxRecDepth 100000 in
theorem C_DiskNames (w : World) : CallsR Try.prog 6 [] w fun v w' => v = .bool true ∧ Below w.heap.size w w' := by
  obtain ⟨r5, hr5⟩ : ∃ r, rowB 5 = r := ⟨_, rfl⟩
  obtain ⟨r7, hr7⟩ : ∃ r, rowB 7 = r := ⟨_, rfl⟩
  have l5 : r5.length = 256 := by rw [← hr5, rowB, List.length_replicate]
  have l7 : r7.length = 256 := by rw [← hr7, rowB, List.length_replicate]
  obtain ⟨Z, hZ⟩ : ∃ Z : By, List.replicate 300 0 = Z := ⟨_, rfl⟩
  have lZ : Z.length = 300 := by rw [← hZ, List.length_replicate]
  refine callsR Try.func6 rfl rfl (by kernel_rfl) rfl ?_
  have hw := Below.refl w.heap.size w
  refine rk_seq ?_
  refine rk_region ?_
  refine wl_p (fun _ => o_assign rfl) ?_
  refine wl_nil ?_
  refine rk_seq ?_
  refine rk_region ?_
  refine wl_call rfl (C_dNewBad _ (by omega)) ?_
  rintro v17 w17 ⟨rfl, b17⟩
  have s17 := b17.size
  replace hw := hw.trans (b17.mono hw.size)
  refine wl_p (fun _ => o_move rfl) ?_
  refine wl_p (fun _ => o_ext20 rfl) ?_
  refine wl_p (fun _ => o_ext21 rfl) ?_
  refine wl_p (fun _ => o_assign rfl) ?_
  refine wl_p (fun _ => o_assign rfl) ?_
  refine wl_nil ?_
  refine rk_seq ?_
  refine rk_region ?_
  refine wl_mkBz (300) rfl rfl (by omega) (by rfl) (by omega) hZ ?_
  rintro A21 w21 f21 b21
  have qf21 := f21.cap
  have s21 := b21.size
  replace hw := hw.trans (b21.mono hw.size)
  refine wl_call rfl (C_dOfBad _ f21.to_Rd (by omega) (by omega) (by omega) (by omega)) ?_
  rintro v22 w22 ⟨rfl, b22⟩
  have s22 := b22.size
  replace hw := hw.trans (b22.mono hw.size)
  replace f21 := f21.u b22
  refine wl_p (fun _ => o_move rfl) ?_
  refine wl_p (fun _ => o_ext20 rfl) ?_
  refine wl_p (fun _ => o_ext21 rfl) ?_
  refine wl_p (fun _ => o_assign rfl) ?_
  refine wl_p (fun _ => o_assign rfl) ?_
  refine wl_nil ?_
  refine rk_seq ?_
  refine rk_region ?_
  refine wl_call rfl (C_dOfBad _ (Rd.nil_) (by rfl) (by omega) (by simp) (by simp)) ?_
  rintro v26 w26 ⟨rfl, b26⟩
  have s26 := b26.size
  replace hw := hw.trans (b26.mono hw.size)
  replace f21 := f21.u b26
  refine wl_p (fun _ => o_move rfl) ?_
  refine wl_p (fun _ => o_ext20 rfl) ?_
  refine wl_p (fun _ => o_ext21 rfl) ?_
  refine wl_p (fun _ => o_assign rfl) ?_
  refine wl_p (fun _ => o_assign rfl) ?_
  refine wl_nil ?_
  refine rk_seq ?_
  refine rk_region ?_
  refine wl_call rfl (C_row (b := 7) _ rfl hr7) ?_
  rintro v30 w30 ⟨A30, c30, rfl, f30, i30, b30⟩
  have q30 := f30.cap
  have sb30 := b30.size
  replace hw := hw.trans (b30.mono hw.size)
  replace f21 := f21.u b30
  refine wl_call rfl (C_dOfOk (m := 1) _ f30.to_Rd (by omega) rfl q30 (by omega) (by omega)) ?_
  rintro v31 w31 ⟨g31, S31, rfl, himg, hSl, f31, b31⟩
  have sb31 := b31.size
  replace hw := hw.trans (b31.mono hw.size)
  replace f21 := f21.u b31
  replace f30 := f30.u b31
  obtain ⟨Q, hQ⟩ : ∃ Q : List (Option Sec), List.replicate 1 none = Q := ⟨_, rfl⟩
  have hS31 : S31 = [⟨r7, l7⟩] := by
    obtain ⟨s, rfl⟩ : ∃ s, S31 = [s] := by
      cases S31 with
      | nil => cases hSl
      | cons s L => cases L with
        | nil => exact ⟨s, rfl⟩
        | cons _ _ => simp at hSl
    have e : img [s] = s.1 := by simp [img]
    rw [e] at himg
    exact congrArg (fun x => [x]) (Subtype.ext himg)
  rw [hQ] at f31
  have hR1 : rdD S31 Q 1 = ([], 2) := by rw [rdD, dif_neg (by rw [hSl]; omega)]
  have hR0 : rdD S31 Q 0 = (r7, 0) := by subst hS31; subst hQ; rw [rdD, dif_pos (by simp)]; rfl
  have hW0 : wrC S31 Q 0 [] = (Q, 2) := by rw [wrC, dif_neg (by simp)]
  have hW1 : wrC S31 Q 0 r5 = ([some ⟨r5, l5⟩], 0) := by subst hQ; rw [wrC, dif_pos ⟨by rw [hSl]; omega, l5⟩]; rfl
  have hI : ixz [some (⟨r5, l5⟩ : Sec)] = [0] := rfl
  refine wl_p (fun _ => o_move rfl) ?_
  refine wl_p (fun _ => o_ext20 rfl) ?_
  refine wl_p (fun _ => o_ext21 rfl) ?_
  refine wl_p (fun _ => o_assign rfl) ?_
  refine wl_p (fun _ => o_assign rfl) ?_
  refine wl_nil ?_
  refine rk_seq ?_
  refine rk_seq ?_
  refine rk_region ?_
  refine wl_p (fun _ => o_move rfl) ?_
  refine wl_p (fun _ => o_ne rfl rfl) ?_
  refine wl_nil ?_
  refine rk_false rfl ?_
  refine rk_skip ?_
  refine rk_seq ?_
  refine rk_region ?_
  refine wl_p (fun _ => o_move rfl) ?_
  refine wl_call rfl (C_dReadN _ f31 hR1 (by rfl)) ?_
  rintro v38 w38 ⟨A38, ⟨c38, ⟨rfl, ⟨f38, ⟨i38, b38⟩⟩⟩⟩⟩
  dsimp only at f38
  dsimp only at i38
  dsimp only
  have s38 := b38.size
  replace hw := hw.trans (b38.mono hw.size)
  replace f31 := f31.u b38
  replace f30 := f30.u b38
  replace f21 := f21.u b38
  refine wl_p (fun _ => o_move rfl) ?_
  refine wl_p (fun _ => o_ext20 rfl) ?_
  refine wl_p (fun _ => o_ext21 rfl) ?_
  refine wl_p (fun _ => o_assign rfl) ?_
  refine wl_p (fun _ => o_assign rfl) ?_
  refine wl_nil ?_
  refine rk_seq ?_
  refine rk_region ?_
  refine wl_p (fun _ => o_move rfl) ?_
  refine wl_call rfl (C_dReadN _ f31 hR0 (by rfl)) ?_
  rintro v43 w43 ⟨A43, ⟨c43, ⟨rfl, ⟨f43, ⟨i43, b43⟩⟩⟩⟩⟩
  dsimp only at f43
  dsimp only at i43
  dsimp only
  have s43 := b43.size
  replace hw := hw.trans (b43.mono hw.size)
  replace f21 := f21.u b43
  replace f30 := f30.u b43
  replace f31 := f31.u b43
  replace f38 := f38.u b43
  refine wl_p (fun _ => o_move rfl) ?_
  refine wl_p (fun _ => o_ext20 rfl) ?_
  refine wl_p (fun _ => o_ext21 rfl) ?_
  refine wl_p (fun _ => o_assign rfl) ?_
  refine wl_p (fun _ => o_assign rfl) ?_
  refine wl_nil ?_
  refine rk_seq ?_
  refine rk_region ?_
  refine wl_p (fun _ => o_move rfl) ?_
  refine wl_call rfl (C_dWriteN _ f31 (Rd.nil_) hW0 (by rfl) (by rfl) (by omega)) ?_
  rintro v47 w47 ⟨rfl, ⟨f47, g47⟩⟩
  dsimp only at f47
  dsimp only
  have s47 := g47.size
  replace hw := hw.trans (g47.below hw.size (by omega))
  replace f38 := f38.c g47 (by omega)
  replace f30 := f30.c g47 (by omega)
  replace f21 := f21.c g47 (by omega)
  replace f43 := f43.c g47 (by omega)
  clear f31
  refine wl_p (fun _ => o_assign rfl) ?_
  refine wl_nil ?_
  refine rk_seq ?_
  refine rk_region ?_
  refine wl_p (fun _ => o_move rfl) ?_
  refine wl_call rfl (C_row (b := 5) _ rfl hr5) ?_
  rintro v49 w49 ⟨A49, c49, rfl, f49, i49, b49⟩
  have q49 := f49.cap
  have sb49 := b49.size
  replace hw := hw.trans (b49.mono hw.size)
  replace f43 := f43.u b49
  replace f21 := f21.u b49
  replace f30 := f30.u b49
  replace f38 := f38.u b49
  replace f47 := f47.u b49
  refine wl_call rfl (C_dWriteN _ f47 f49.to_Rd hW1 (by rfl) rfl (by omega)) ?_
  rintro v50 w50 ⟨rfl, ⟨f50, g50⟩⟩
  dsimp only at f50
  dsimp only
  have s50 := g50.size
  replace hw := hw.trans (g50.below hw.size (by omega))
  replace f38 := f38.c g50 (by omega)
  replace f30 := f30.c g50 (by omega)
  replace f21 := f21.c g50 (by omega)
  replace f43 := f43.c g50 (by omega)
  replace f49 := f49.c g50 (by omega)
  clear f47
  refine wl_nil ?_
  refine rk_seq ?_
  refine rk_region ?_
  refine wl_p (fun _ => o_move rfl) ?_
  refine wl_call rfl (C_dCached _ f50 hI) ?_
  rintro v52 w52 ⟨A52, ⟨c52, ⟨rfl, ⟨f52, b52⟩⟩⟩⟩
  have qf52 := f52.cap
  have s52 := b52.size
  replace hw := hw.trans (b52.mono hw.size)
  replace f49 := f49.u b52
  replace f43 := f43.u b52
  replace f21 := f21.u b52
  replace f30 := f30.u b52
  replace f38 := f38.u b52
  replace f50 := f50.u b52
  refine wl_p (fun _ => o_assign rfl) ?_
  refine wl_nil ?_
  refine rk_seq ?_
  refine rk_region ?_
  refine wl_p (fun _ => o_assign rfl) ?_
  refine wl_nil ?_
  refine rk_seq ?_
  refine rk_draw (id := 13) (none) [0, 1, 2, 6, 10, 18, 32, 96, 160, 288, 512, 1536, 2560, 4608, 8192, 24576, 40960, 73728, 131072, 393216, 655360, 1179648, 2097152, 6291456, 2097152, 18874368, 44040192, 69206016, 150994944, 268435456, 805306368, 1342177280, 2415919104, 4294967296, 12884901888, 21474836480, 38654705664, 73014444032, 137438953472, 412316860416, 687194767360, 1236950581248, 2748779069440, 4398046511104, 13194139533312, 21990232555520, 39582418599936, 87960930222080, 140737488355328, 422212465065984, 703687441776640, 1266637395197952, 2814749767106560, 4503599627370496, 18014398509481983] [0, 1, 3, 7, 15, 31, 63, 127, 255, 511, 1023, 2047, 4095, 8191, 16383, 32767, 65535, 131071, 262143, 524287, 1048575, 2097151, 4194303, 8388607, 4194303, 20971519, 67108863, 134217727, 268435455, 536870911, 1073741823, 2147483647, 4294967295, 8589934591, 17179869183, 34359738367, 68719476735, 137438953471, 274877906943, 549755813887, 1099511627775, 2199023255551, 4398046511103, 8796093022207, 17592186044415, 35184372088831, 70368744177663, 140737488355327, 281474976710655, 562949953421311, 1125899906842623, 2251799813685247, 4503599627370495, 9007199254740991, 18014398509481983] 581091912056833 16777216 [(.l, 0), (.p, 1), (.p, 2), (.p, 3), (.p, 4), (.p, 5), (.p, 6), (.p, 7), (.p, 8), (.p, 9), (.p, 10), (.p, 11), (.p, 12), (.p, 13), (.p, 14), (.p, 15), (.p, 16), (.p, 17), (.p, 18), (.p, 19), (.p, 20), (.p, 21), (.p, 22), (.s, 23), (.c, 24), (.r, 25), (.p, 26), (.p, 27), (.p, 28), (.p, 29), (.p, 30), (.p, 31), (.p, 32), (.p, 33), (.p, 34), (.p, 35), (.p, 36), (.p, 37), (.p, 38), (.l, 39), (.p, 40), (.p, 41), (.p, 42), (.p, 43), (.l, 44), (.p, 45), (.p, 46), (.p, 47), (.p, 48), (.l, 49), (.p, 50), (.p, 51), (.p, 52), (.p, 53), (.p, 54)] (by kernel_rfl) (by kernel_rfl) (by kernel_rfl) (by kernel_rfl) (by kernel_rfl) ?_
  replace hw := hw.drew
  replace f50 := f50.d
  replace f38 := f38.d
  replace f30 := f30.d
  replace f21 := f21.d
  replace f43 := f43.d
  replace f49 := f49.d
  replace f52 := f52.d
  refine wl_call rfl (C_lives07 _) ?_
  rintro v53 w53 ⟨rfl, b53⟩
  simp only [drew_size] at b53
  have s53 := b53.size
  simp only [drew_size] at s53
  replace hw := hw.trans (b53.mono hw.size)
  replace f52 := f52.u b53
  replace f49 := f49.u b53
  replace f43 := f43.u b53
  replace f21 := f21.u b53
  replace f30 := f30.u b53
  replace f38 := f38.u b53
  replace f50 := f50.u b53
  refine wl_p (fun _ => o_move rfl) ?_
  refine wl_p (fun _ => o_move rfl) ?_
  refine wl_p (fun _ => o_eq rfl rfl) ?_
  refine wl_p (fun _ => o_pick_t rfl rfl) ?_
  refine wl_p (fun _ => o_move rfl) ?_
  refine wl_p (fun _ => o_move rfl) ?_
  refine wl_p (fun _ => o_eq rfl rfl) ?_
  refine wl_p (fun _ => o_pick_t rfl rfl) ?_
  refine wl_p (fun _ => o_move rfl) ?_
  refine wl_p (fun _ => o_move rfl) ?_
  refine wl_p (fun _ => o_eq rfl rfl) ?_
  refine wl_p (fun _ => o_pick_t rfl rfl) ?_
  refine wl_p (fun _ => o_move rfl) ?_
  refine wl_p (fun _ => o_move rfl) ?_
  refine wl_p (fun _ => o_eq rfl rfl) ?_
  refine wl_p (fun _ => o_pick_t rfl rfl) ?_
  refine wl_p (fun _ => o_move rfl) ?_
  refine wl_p (fun _ => o_move rfl) ?_
  refine wl_p (fun _ => o_eq rfl rfl) ?_
  refine wl_p (fun _ => o_pick_t rfl rfl) ?_
  refine wl_p (fun _ => o_move rfl) ?_
  refine wl_p (fun _ => o_move rfl) ?_
  refine wl_s (fun _ hk => (o_strU Try.underlying32 Try.underlying5 Try.underlying9 rfl f43.to_Rd (below_of_grown_none hk) rfl)) ?_
  refine wl_know 74 true rfl (decide_eq_true (by omega)) ?_
  refine wl_call (hq := .inr fun _ _ h => by obtain ⟨_, _, _, _, _, hb⟩ := h; exact grown_of_below hb _) rfl (C_row (b := 7) _ rfl hr7) ?_
  rintro v77 w77 ⟨A77, c77, rfl, f77, i77, b77⟩
  have sb77 := b77.size
  replace hw := hw.trans (b77.mono hw.size)
  replace f50 := f50.u b77
  replace f38 := f38.u b77
  replace f30 := f30.u b77
  replace f21 := f21.u b77
  replace f43 := f43.u b77
  replace f49 := f49.u b77
  replace f52 := f52.u b77
  refine wl_r (o_strU Try.underlying32 Try.underlying5 Try.underlying9 rfl f77.to_Rd (Below.refl _ _) rfl) ?_
  refine wl_p (fun _ => o_seq rfl rfl) ?_
  refine wl_p (fun _ => o_pick_t rfl rfl) ?_
  refine wl_p (fun _ => o_move rfl) ?_
  refine wl_know 81 true rfl (by simp) ?_
  refine wl_p (fun _ => o_move rfl) ?_
  refine wl_p (fun _ => o_eq rfl rfl) ?_
  refine wl_p (fun _ => o_pick_t rfl rfl) ?_
  refine wl_p (fun _ => o_move rfl) ?_
  refine wl_p (fun _ => o_move rfl) ?_
  refine wl_p (fun _ => o_len (t := 41) Try.underlying41 rfl) ?_
  refine wl_p (fun _ => o_eq rfl rfl) ?_
  refine wl_p (fun _ => o_pick_t rfl rfl) ?_
  refine wl_p (fun _ => o_move rfl) ?_
  refine wl_p (fun _ => o_move rfl) ?_
  refine wl_call rfl (C_dSize _ f50) ?_
  rintro v92 w92 ⟨rfl, rfl⟩
  refine wl_p (fun _ => o_eq rfl rfl) ?_
  refine wl_p (fun _ => o_pick_t rfl rfl) ?_
  refine wl_p (fun _ => o_move rfl) ?_
  refine wl_know 95 true rfl (decide_eq_true (by omega)) ?_
  refine wl_p (fun _ => o_move rfl) ?_
  refine wl_call rfl (C_dCloneNil _) ?_
  rintro v97 w97 ⟨rfl, b97⟩
  have s97 := b97.size
  replace hw := hw.trans (b97.mono hw.size)
  replace f52 := f52.u b97
  replace f49 := f49.u b97
  replace f43 := f43.u b97
  replace f21 := f21.u b97
  replace f30 := f30.u b97
  replace f38 := f38.u b97
  replace f50 := f50.u b97
  replace f77 := f77.u b97
  refine wl_p (fun _ => o_peq_nil (t := 26) Try.underlying26 rfl rfl) ?_
  refine wl_p (fun _ => o_pick_t rfl rfl) ?_
  refine wl_p (fun _ => o_move rfl) ?_
  refine wl_p (fun _ => o_move rfl) ?_
  refine wl_call rfl (C_dFlushNil _) ?_
  rintro v102 w102 ⟨rfl, b102⟩
  have s102 := b102.size
  replace hw := hw.trans (b102.mono hw.size)
  replace f77 := f77.u b102
  replace f50 := f50.u b102
  replace f38 := f38.u b102
  replace f30 := f30.u b102
  replace f21 := f21.u b102
  replace f43 := f43.u b102
  replace f49 := f49.u b102
  replace f52 := f52.u b102
  refine wl_p (fun _ => o_eq rfl rfl) ?_
  refine wl_p (fun _ => o_pick_t rfl rfl) ?_
  refine wl_p (fun _ => o_move rfl) ?_
  refine wl_p (fun _ => o_pick_t rfl rfl) ?_
  refine wl_p (fun _ => o_assign rfl) ?_
  refine wl_nild ?_
  refine ret1 rfl rfl ?_
  exact ⟨rfl, hw⟩
set_option maxRecDepth 100000 in
set_option maxHeartbeats 1000000 in
theorem C_DiskClones {n0 : Int} {A1 A2 : Option Addr} {L M : List DAct} {c1 c2 : Nat} (w : World) (hL : RDA w A1 L) (hM : RDA w A2 M) (wn : (Lit.int .i64 n0).wf = true) (m1 : L.length ≤ maxLen) (m2 : M.length ≤ maxLen) :
    CallsR Try.prog 5 [.int .i64 n0, .slice A1 L.length c1, .slice A2 M.length c2] w fun v w' => v = .bool true ∧ Below w.heap.size w w' := by
  have wm : (Lit.int .i64 40).wf = true := by decide
  have hpk := pick_range n0 40 (by omega)
  obtain ⟨p, hp⟩ : ∃ p, pick n0 40 = p := ⟨_, rfl⟩
  rw [hp] at hpk
  obtain ⟨m, hm⟩ : ∃ m : Nat, 1 + p = (m : Int) := ⟨(1 + p).toNat, by omega⟩
  obtain ⟨Z, hZ⟩ : ∃ Z : List Sec, List.replicate m z256 = Z := ⟨_, rfl⟩
  obtain ⟨Q, hQ⟩ : ∃ Q : List (Option Sec), List.replicate m none = Q := ⟨_, rfl⟩
  refine callsR Try.func5 rfl rfl (by kernel_rfl) rfl ?_
  have hw := Below.refl w.heap.size w
  refine rk_seq ?_
  refine rk_region ?_
  refine wl_p (fun _ => o_assign rfl) ?_
  refine wl_nil ?_
  refine rk_seq ?_
  refine rk_seq ?_
  refine rk_region ?_
  refine wl_call rfl (C_lives07 _) ?_
  rintro v15 w15 ⟨rfl, b15⟩
  have s15 := b15.size
  replace hw := hw.trans (b15.mono hw.size)
  refine wl_p (fun _ => o_not rfl) ?_
  refine wl_nil ?_
  refine rk_false rfl ?_
  refine rk_skip ?_
  refine rk_seq ?_
  refine rk_seq ?_
  refine rk_region ?_
  refine wl_p (fun _ => o_move rfl) ?_
  refine wl_call rfl (C_small _ (hL.u hw) rfl (by omega)) ?_
  rintro v18 w18 ⟨b18, ⟨rfl, ⟨i18, b18_1⟩⟩⟩
  have s18 := b18_1.size
  replace hw := hw.trans (b18_1.mono hw.size)
  refine wl_p (fun _ => o_not rfl) ?_
  refine wl_p (fun _ => o_move rfl) ?_
  cases b18 with
  | false =>
    refine wl_off ?_
    refine wl_off ?_
    refine wl_off ?_
    refine wl_p (fun _ => o_pick_t rfl rfl) ?_
    refine wl_nil ?_
    refine rk_true rfl ?_
    refine rk_seq ?_
    refine rk_region ?_
    refine wl_p (fun _ => o_assign rfl) ?_
    refine wl_nil ?_
    refine ret1 rfl rfl ?_
    exact ⟨rfl, hw⟩
  | true =>
    have hsL : smallA L := (show true = true ↔ smallA L by assumption).1 rfl
    refine wl_p (fun _ => o_move rfl) ?_
    refine wl_call rfl (C_small _ (hM.u hw) rfl (by omega)) ?_
    rintro v22 w22 ⟨b22, ⟨rfl, ⟨i22, b22_1⟩⟩⟩
    have s22 := b22_1.size
    replace hw := hw.trans (b22_1.mono hw.size)
    refine wl_p (fun _ => o_not rfl) ?_
    refine wl_p (fun _ => o_pick_f rfl rfl) ?_
    refine wl_nil ?_
    cases b22 with
    | false =>
      refine rk_true rfl ?_
      refine rk_seq ?_
      refine rk_region ?_
      refine wl_p (fun _ => o_assign rfl) ?_
      refine wl_nil ?_
      refine ret1 rfl rfl ?_
      exact ⟨rfl, hw⟩
    | true =>
      have hsM : smallA M := (show true = true ↔ smallA M by assumption).1 rfl
      refine rk_false rfl ?_
      refine rk_skip ?_
      refine rk_seq ?_
      refine rk_region ?_
      refine wl_p (fun _ => o_move rfl) ?_
      refine wl_call rfl (C_PickR _ hp wn wm) ?_
      rintro v27 w27 ⟨rfl, b27⟩
      have s27 := b27.size
      replace hw := hw.trans (b27.mono hw.size)
      refine wl_p (fun _ => o_add rfl rfl (by omega) (by omega)) ?_
      refine wl_call rfl (C_dNewOk _ hm hZ hQ (by omega) (by omega)) ?_
      rintro v29 w29 ⟨g29, ⟨rfl, ⟨f29, b29⟩⟩⟩
      have s29 := b29.size
      replace hw := hw.trans (b29.mono hw.size)
      refine wl_p (fun _ => o_move rfl) ?_
      refine wl_p (fun _ => o_ext20 rfl) ?_
      refine wl_p (fun _ => o_ext21 rfl) ?_
      refine wl_p (fun _ => o_assign rfl) ?_
      refine wl_p (fun _ => o_assign rfl) ?_
      refine wl_nil ?_
      refine rk_seq ?_
      refine rk_seq ?_
      refine rk_region ?_
      refine wl_p (fun _ => o_move rfl) ?_
      refine wl_p (fun _ => o_ne rfl rfl) ?_
      refine wl_nil ?_
      refine rk_false rfl ?_
      refine rk_skip ?_
      refine rk_seq ?_
      refine rk_seq ?_
      refine rk_region ?_
      refine wl_p (fun _ => o_assign rfl) ?_
      refine wl_nil ?_
      refine rk_block ?_
      have hs0 : w.heap.size ≤ w27.heap.size := by omega
      have hle0 := f29.len
      have hlL := hsL.1
      have hlM := hsM.1
      refine rk_joinf (fun fb fr W => ∃ (S : List Sec) (C : List (Option Sec)), fr = [] ++ fb.drop 1 ∧ (S, C) = runD Z Q L ∧ DkAt W w27.heap.size w29.heap.size g29 S C ∧ Below w.heap.size w W) ?_ (fun ks hj => ?_)
      rotate_left
      · refine rk_loopf (fun fb k fr W => ∃ (i : Nat) (v : Int) (S : List Sec) (C : List (Option Sec)), fr = [(9, .int .i64 v)] ++ fb.drop 1 ∧ v = i ∧ i ≤ L.length ∧ k = L.length - i ∧ (S, C) = runD Z Q (L.take i) ∧ DkAt W w27.heap.size w29.heap.size g29 S C ∧ Below w.heap.size w W) (n := L.length) (Fr.le_of (by kernel_rfl) (by kernel_rfl) (by repeat' constructor)) ⟨0, _, Z, Q, rfl, rfl, by omega, rfl, rfl, f29, hw⟩ ?_
        clear f29 hw
        rintro k fr W ⟨i, v, S, C, rfl, rfl, hi, rfl, hr, f29, hw⟩
        first | refine rk_frame (by simp only [List.cons_append, List.nil_append, List.drop_succ_cons, List.drop_zero]; rfl) ?_ | refine wl_frame (by simp only [List.cons_append, List.nil_append, List.drop_succ_cons, List.drop_zero]; rfl) ?_
        refine rk_seq ?_
        refine rk_seq ?_
        refine rk_region ?_
        refine wl_p (fun _ => o_move rfl) ?_
        refine wl_p (fun _ => o_move rfl) ?_
        refine wl_p (fun _ => o_len (t := 22) Try.underlying22 rfl) ?_
        refine wl_p (fun _ => o_lt rfl rfl) ?_
        refine wl_nil ?_
        refine rk_if rfl (fun h37 => ?_) (fun h37 => ?_)
        · have hil : i < L.length := by omega
          have hkl := hsL.2 _ (List.getElem_mem hil)
          obtain ⟨r, hst⟩ : ∃ r, stepD S C (L[i].1, L[i].2.1, L[i].2.2.1, L[i].2.2.2.1, L[i].2.2.2.2) = r := ⟨_, rfl⟩
          refine rk_skip ?_
          refine rk_seq ?_
          refine rk_block ?_
          refine rk_region ?_
          refine wl_p (fun _ => o_move rfl) ?_
          refine wl_p (fun _ => o_move rfl) ?_
          refine wl_p (fun _ => o_move rfl) ?_
          refine wl_p (fun _ => (o_iaddrA (i) Try.underlying22 Try.sizeOf35 rfl rfl rfl (hL.some_ (by omega)) (by omega))) ?_
          refine wl_ldDAct rfl hL hw (by omega) ?_
          rintro A144 c144 f44 i44 i44_1 e44 e44_1
          refine wl_call rfl (C_do _ f29 (f44.u hw) (by rfl) hst rfl (by omega) e44 e44_1) ?_
          rintro v45 w45 ⟨rfl, ⟨f45, g45⟩⟩
          have s45 := g45.size
          replace hw := hw.trans (g45.below hw.size (by omega))
          clear f29
          refine wl_nil ?_
          refine rk_blk ?_
          refine rk_region ?_
          refine wl_p (fun _ => o_move rfl) ?_
          refine wl_p (fun _ => o_add rfl rfl (by omega) (by omega)) ?_
          refine wl_p (fun _ => o_assign rfl) ?_
          refine wl_nil ?_
          have e : (r.1, r.2) = runD Z Q (L.take (i + 1)) := by rw [List.take_succ_eq_append_getElem hil, runD_snoc, ← hr]; exact hst.symm
          exact rk_againf (Fr.le_of (by kernel_rfl) (by kernel_rfl) (by repeat' constructor)) ⟨i + 1, (i : Int) + 1, r.1, r.2, rfl, by omega, by omega, rfl, e, f45, hw⟩ (by omega)
        · refine rk_exit rfl ?_
          obtain rfl : i = L.length := by omega
          rw [List.take_length] at hr
          exact rk_tof hj (Fr.le_of (by kernel_rfl) (by kernel_rfl) (by repeat' constructor)) ⟨S, C, rfl, hr, f29, hw⟩
      clear f29 hw
      rintro fr W ⟨S, C, rfl, hr, f29, hw⟩
      have hWs := f29.hi
      have hWs2 := hw.size
      obtain ⟨I, hI⟩ : ∃ I, ixz C = I := ⟨_, rfl⟩
      obtain ⟨im, him⟩ : ∃ im, img S = im := ⟨_, rfl⟩
      first | refine rk_frame (by simp only [List.cons_append, List.nil_append, List.drop_succ_cons, List.drop_zero]; rfl) ?_ | refine wl_frame (by simp only [List.cons_append, List.nil_append, List.drop_succ_cons, List.drop_zero]; rfl) ?_
      refine rk_seq ?_
      refine rk_drawo (id := 12) (none) [0, 1, 2, 0, 10, 23, 63] [0, 1, 3, 0, 11, 31, 63] 18 16 [0, 3, 1, 2, 4, 5, 6] [(.p, 0), (.p, 3), (.l, 1), (.s, 2), (.c, 4), (.p, 5), (.p, 6)] (by kernel_rfl) (by kernel_rfl) (by kernel_rfl) (by kernel_rfl) (by kernel_rfl) ?_
      dsimp only [inOrder, nthOp]
      replace hw := hw.drew
      replace f29 := f29.d
      refine wl_p (fun _ => o_move rfl) ?_
      refine wl_p (fun _ => o_move rfl) ?_
      refine wl_call rfl (C_dImage _ f29 him) ?_
      rintro v47 w47 ⟨A47, ⟨c47, ⟨rfl, ⟨f47, b47⟩⟩⟩⟩
      simp only [drew_size] at f47
      simp only [drew_size] at b47
      have qf47 := f47.cap
      have s47 := b47.size
      simp only [drew_size] at s47
      replace hw := hw.trans (b47.mono hw.size)
      replace f29 := f29.u b47
      refine wl_s (fun _ hk => (o_strU Try.underlying32 Try.underlying5 Try.underlying9 rfl f47.to_Rd (below_of_grown_none hk) rfl)) ?_
      refine wl_call rfl (C_dCached _ f29 hI) ?_ (hq := .inr fun _ _ h => by obtain ⟨_, _, _, _, hb⟩ := h; exact grown_of_below hb _)
      rintro v50 w50 ⟨A50, ⟨c50, ⟨rfl, ⟨f50, b50⟩⟩⟩⟩
      have qf50 := f50.cap
      have s50 := b50.size
      replace hw := hw.trans (b50.mono hw.size)
      replace f29 := f29.u b50
      replace f47 := f47.u b50
      refine wl_p (fun _ => o_assign rfl) ?_
      refine wl_p (fun _ => o_assign rfl) ?_
      refine wl_nild ?_
      refine rk_seq ?_
      refine rk_region ?_
      refine wl_p (fun _ => o_move rfl) ?_
      refine wl_call rfl (C_dClone _ f29) ?_
      rintro v52 w52 ⟨g52, ⟨rfl, ⟨f52, b52⟩⟩⟩
      have s52 := b52.size
      replace hw := hw.trans (b52.mono hw.size)
      replace f47 := f47.u b52
      replace f29 := f29.u b52
      replace f50 := f50.u b52
      refine wl_p (fun _ => o_assign rfl) ?_
      refine wl_nil ?_
      refine rk_seq ?_
      refine rk_seq ?_
      refine rk_region ?_
      refine wl_p (fun _ => o_assign rfl) ?_
      refine wl_nil ?_
      refine rk_block ?_
      have hsW1 : w29.heap.size ≤ w50.heap.size := by omega
      have hsW2 : w.heap.size ≤ w50.heap.size := by omega
      refine rk_joinf (fun fb fr V => ∃ (S2 : List Sec) (C2 : List (Option Sec)), fr = [] ++ fb.drop 1 ∧ (S2, C2) = runD S C M ∧ DkAt V w50.heap.size w52.heap.size g52 S2 C2 ∧ DkAt V w27.heap.size w29.heap.size g29 S C ∧ OwnZ V w47.heap.size w50.heap.size A50 c50 I ∧ Below w.heap.size w V) ?_ (fun ks hj => ?_)
      rotate_left
      · refine rk_loopf (fun fb k fr V => ∃ (i : Nat) (v : Int) (S2 : List Sec) (C2 : List (Option Sec)), fr = [(13, .int .i64 v)] ++ fb.drop 1 ∧ v = i ∧ i ≤ M.length ∧ k = M.length - i ∧ (S2, C2) = runD S C (M.take i) ∧ DkAt V w50.heap.size w52.heap.size g52 S2 C2 ∧ DkAt V w27.heap.size w29.heap.size g29 S C ∧ OwnZ V w47.heap.size w50.heap.size A50 c50 I ∧ Below w.heap.size w V) (n := M.length) (Fr.le_of (by kernel_rfl) (by kernel_rfl) (by repeat' constructor)) ⟨0, _, S, C, rfl, rfl, by omega, rfl, rfl, f52, f29, f50, hw⟩ ?_
        clear f29 f47 f50 f52 hw
        rintro k fr V ⟨i, v, S2, C2, rfl, rfl, hi, rfl, hr2, f52, f29, f50, hw⟩
        first | refine rk_frame (by simp only [List.cons_append, List.nil_append, List.drop_succ_cons, List.drop_zero]; rfl) ?_ | refine wl_frame (by simp only [List.cons_append, List.nil_append, List.drop_succ_cons, List.drop_zero]; rfl) ?_
        refine rk_seq ?_
        refine rk_seq ?_
        refine rk_region ?_
        refine wl_p (fun _ => o_move rfl) ?_
        refine wl_p (fun _ => o_move rfl) ?_
        refine wl_p (fun _ => o_len (t := 22) Try.underlying22 rfl) ?_
        refine wl_p (fun _ => o_lt rfl rfl) ?_
        refine wl_nil ?_
        refine rk_if rfl (fun h56 => ?_) (fun h56 => ?_)
        · have hil : i < M.length := by omega
          have hkl := hsM.2 _ (List.getElem_mem hil)
          obtain ⟨r, hst⟩ : ∃ r, stepD S2 C2 (M[i].1, M[i].2.1, M[i].2.2.1, M[i].2.2.2.1, M[i].2.2.2.2) = r := ⟨_, rfl⟩
          refine rk_skip ?_
          refine rk_seq ?_
          refine rk_block ?_
          refine rk_region ?_
          refine wl_p (fun _ => o_move rfl) ?_
          refine wl_p (fun _ => o_move rfl) ?_
          refine wl_p (fun _ => o_move rfl) ?_
          refine wl_p (fun _ => (o_iaddrA (i) Try.underlying22 Try.sizeOf35 rfl rfl rfl (hM.some_ (by omega)) (by omega))) ?_
          refine wl_ldDAct rfl hM hw (by omega) ?_
          rintro A163 c163 f63 i63 i63_1 e63 e63_1
          refine wl_call rfl (C_do _ f52 (f63.u hw) (by rfl) hst rfl (by omega) e63 e63_1) ?_
          rintro v64 w64 ⟨rfl, ⟨f64, g64⟩⟩
          have s64 := g64.size
          replace hw := hw.trans (g64.below hw.size (by omega))
          replace f50 := f50.c g64 (by omega)
          replace f29 := f29.c g64 (by omega)
          clear f52
          refine wl_nil ?_
          refine rk_blk ?_
          refine rk_region ?_
          refine wl_p (fun _ => o_move rfl) ?_
          refine wl_p (fun _ => o_add rfl rfl (by omega) (by omega)) ?_
          refine wl_p (fun _ => o_assign rfl) ?_
          refine wl_nil ?_
          have e : (r.1, r.2) = runD S C (M.take (i + 1)) := by rw [List.take_succ_eq_append_getElem hil, runD_snoc, ← hr2]; exact hst.symm
          exact rk_againf (Fr.le_of (by kernel_rfl) (by kernel_rfl) (by repeat' constructor)) ⟨i + 1, (i : Int) + 1, r.1, r.2, rfl, by omega, by omega, rfl, e, f64, f29, f50, hw⟩ (by omega)
        · refine rk_exit rfl ?_
          obtain rfl : i = M.length := by omega
          rw [List.take_length] at hr2
          exact rk_tof hj (Fr.le_of (by kernel_rfl) (by kernel_rfl) (by repeat' constructor)) ⟨S2, C2, rfl, hr2, f52, f29, f50, hw⟩
      clear f29 f47 f50 f52 hw
      rintro fr V ⟨S2, C2, rfl, hr2, f52, f29, f50, hw⟩
      have hIl : I.length ≤ 16384 := by rw [← hI, ixz_len]; have := cnt_le C; have := f29.len; have := f29.n2; omega
      first | refine rk_frame (by simp only [List.cons_append, List.nil_append, List.drop_succ_cons, List.drop_zero]; rfl) ?_ | refine wl_frame (by simp only [List.cons_append, List.nil_append, List.drop_succ_cons, List.drop_zero]; rfl) ?_
      refine rk_seq ?_
      refine rk_seq ?_
      refine rk_region ?_
      refine wl_p (fun _ => o_move rfl) ?_
      refine wl_call rfl (C_dImage _ f29 him) ?_
      rintro v66 w66 ⟨A66, ⟨c66, ⟨rfl, ⟨f66, b66⟩⟩⟩⟩
      have qf66 := f66.cap
      have s66 := b66.size
      replace hw := hw.trans (b66.mono hw.size)
      replace f50 := f50.u b66
      replace f29 := f29.u b66
      replace f52 := f52.u b66
      refine wl_r (o_strU Try.underlying32 Try.underlying5 Try.underlying9 rfl f66.to_Rd (Below.refl _ _) rfl) ?_
      refine wl_p (fun _ => o_move rfl) ?_
      refine wl_p (fun _ => o_sne rfl rfl) ?_
      refine wl_p (fun _ => o_move rfl) ?_
      refine wl_know 70 false rfl (by simp) ?_
      refine wl_p (fun _ => o_move rfl) ?_
      refine wl_call rfl (C_dCached _ f29 hI) ?_
      rintro v72 w72 ⟨A72, ⟨c72, ⟨rfl, ⟨f72, b72⟩⟩⟩⟩
      have qf72 := f72.cap
      have s72 := b72.size
      replace hw := hw.trans (b72.mono hw.size)
      replace f52 := f52.u b72
      replace f29 := f29.u b72
      replace f50 := f50.u b72
      replace f66 := f66.u b72
      refine wl_p (fun _ => o_move rfl) ?_
      refine wl_call rfl (C_IntsZ _ f72.to_RZ f50.to_RZ rfl rfl (by omega) (by omega)) ?_
      rintro v74 w74 ⟨rfl, b74⟩
      have s74 := b74.size
      replace hw := hw.trans (b74.mono hw.size)
      replace f66 := f66.u b74
      replace f50 := f50.u b74
      replace f29 := f29.u b74
      replace f52 := f52.u b74
      replace f72 := f72.u b74
      refine wl_p (fun _ => o_not rfl) ?_
      refine wl_p (fun _ => o_pick_f rfl rfl) ?_
      refine wl_nil ?_
      refine rk_cond rfl (fun h76 => by simp at h76) (fun h76 => ?_)
      refine rk_skip ?_
      refine rk_seq ?_
      refine rk_seq ?_
      refine rk_region ?_
      refine wl_p (fun _ => o_assign rfl) ?_
      refine wl_nil ?_
      refine rk_block ?_
      have hVs := f52.hi
      refine rk_joinf (fun fb fr U => fr = [] ++ fb.drop 4 ∧ DkAt U w50.heap.size w52.heap.size g52 S2 C2 ∧ DkAt U w27.heap.size w29.heap.size g29 S2 C2 ∧ Below w.heap.size w U) ?_ (fun ks hj => ?_)
      rotate_left
      · refine rk_loopf (fun fb k fr U => ∃ (i : Nat) (v : Int) (S3 : List Sec) (C3 : List (Option Sec)), fr = [(14, .int .i64 v)] ++ fb.drop 4 ∧ v = i ∧ i ≤ M.length ∧ k = M.length - i ∧ (S3, C3) = runD S C (M.take i) ∧ DkAt U w50.heap.size w52.heap.size g52 S2 C2 ∧ DkAt U w27.heap.size w29.heap.size g29 S3 C3 ∧ Below w.heap.size w U) (n := M.length) (Fr.le_of (by kernel_rfl) (by kernel_rfl) (by repeat' constructor)) ⟨0, _, S, C, rfl, rfl, by omega, rfl, rfl, f52, f29, hw⟩ ?_
        clear f29 f66 f72 f50 f52 hw
        rintro k fr U ⟨i, v, S3, C3, rfl, rfl, hi, rfl, hr3, f52, f29, hw⟩
        first | refine rk_frame (by simp only [List.cons_append, List.nil_append, List.drop_succ_cons, List.drop_zero]; rfl) ?_ | refine wl_frame (by simp only [List.cons_append, List.nil_append, List.drop_succ_cons, List.drop_zero]; rfl) ?_
        refine rk_seq ?_
        refine rk_seq ?_
        refine rk_region ?_
        refine wl_p (fun _ => o_move rfl) ?_
        refine wl_p (fun _ => o_move rfl) ?_
        refine wl_p (fun _ => o_len (t := 22) Try.underlying22 rfl) ?_
        refine wl_p (fun _ => o_lt rfl rfl) ?_
        refine wl_nil ?_
        refine rk_if rfl (fun h80 => ?_) (fun h80 => ?_)
        · have hil : i < M.length := by omega
          have hkl := hsM.2 _ (List.getElem_mem hil)
          obtain ⟨r, hst⟩ : ∃ r, stepD S3 C3 (M[i].1, M[i].2.1, M[i].2.2.1, M[i].2.2.2.1, M[i].2.2.2.2) = r := ⟨_, rfl⟩
          refine rk_skip ?_
          refine rk_seq ?_
          refine rk_block ?_
          refine rk_region ?_
          refine wl_p (fun _ => o_move rfl) ?_
          refine wl_p (fun _ => o_move rfl) ?_
          refine wl_p (fun _ => o_move rfl) ?_
          refine wl_p (fun _ => (o_iaddrA (i) Try.underlying22 Try.sizeOf35 rfl rfl rfl (hM.some_ (by omega)) (by omega))) ?_
          refine wl_ldDAct rfl hM hw (by omega) ?_
          rintro A187 c187 f87 i87 i87_1 e87 e87_1
          refine wl_call rfl (C_do _ f29 (f87.u hw) (by rfl) hst rfl (by omega) e87 e87_1) ?_
          rintro v88 w88 ⟨rfl, ⟨f88, g88⟩⟩
          have s88 := g88.size
          replace hw := hw.trans (g88.below hw.size (by omega))
          replace f52 := f52.c g88 (by omega)
          clear f29
          refine wl_nil ?_
          refine rk_blk ?_
          refine rk_region ?_
          refine wl_p (fun _ => o_move rfl) ?_
          refine wl_p (fun _ => o_add rfl rfl (by omega) (by omega)) ?_
          refine wl_p (fun _ => o_assign rfl) ?_
          refine wl_nil ?_
          have e : (r.1, r.2) = runD S C (M.take (i + 1)) := by rw [List.take_succ_eq_append_getElem hil, runD_snoc, ← hr3]; exact hst.symm
          exact rk_againf (Fr.le_of (by kernel_rfl) (by kernel_rfl) (by repeat' constructor)) ⟨i + 1, (i : Int) + 1, r.1, r.2, rfl, by omega, by omega, rfl, e, f52, f88, hw⟩ (by omega)
        · refine rk_exit rfl ?_
          obtain rfl : i = M.length := by omega
          rw [List.take_length, ← hr2] at hr3
          have h1 := congrArg Prod.fst hr3
          have h2 := congrArg Prod.snd hr3
          dsimp only at h1 h2
          rw [h1, h2] at f29
          exact rk_tof hj (Fr.le_of (by kernel_rfl) (by kernel_rfl) (by repeat' constructor)) ⟨rfl, f52, f29, hw⟩
      clear f29 f66 f72 f50 f52 hw
      rintro fr U ⟨rfl, f52, f29, hw⟩
      obtain ⟨I2, hI2⟩ : ∃ I, ixz C2 = I := ⟨_, rfl⟩
      obtain ⟨im2, him2⟩ : ∃ im, img S2 = im := ⟨_, rfl⟩
      have hIl2 : I2.length ≤ 16384 := by rw [← hI2, ixz_len]; have := cnt_le C2; have := f29.len; have := f29.n2; omega
      first | refine rk_frame (by simp only [List.cons_append, List.nil_append, List.drop_succ_cons, List.drop_zero]; rfl) ?_ | refine wl_frame (by simp only [List.cons_append, List.nil_append, List.drop_succ_cons, List.drop_zero]; rfl) ?_
      refine rk_seq ?_
      refine rk_drawo (id := 24) (none) [0, 1, 2, 0, 10, 16, 36, 80, 128, 384, 128, 1664, 2688, 4224, 12288, 16384, 49152, 16384, 212992, 344064, 540672, 2097151] [0, 1, 3, 0, 11, 27, 63, 127, 255, 511, 255, 2047, 4095, 8191, 16383, 32767, 65535, 32767, 262143, 524287, 1048575, 2097151] 334354 16 [0, 3, 1, 2, 4, 5, 6, 7, 8, 10, 9, 11, 12, 13, 14, 15, 17, 16, 18, 19, 20, 21] [(.p, 0), (.p, 3), (.l, 1), (.s, 2), (.c, 4), (.r, 5), (.p, 6), (.p, 7), (.p, 8), (.p, 10), (.l, 9), (.l, 11), (.l, 12), (.p, 13), (.p, 14), (.p, 15), (.p, 17), (.l, 16), (.l, 18), (.p, 19), (.p, 20), (.p, 21)] (by kernel_rfl) (by kernel_rfl) (by kernel_rfl) (by kernel_rfl) (by kernel_rfl) ?_
      dsimp only [inOrder, nthOp]
      replace hw := hw.drew
      replace f29 := f29.d
      replace f52 := f52.d
      refine wl_p (fun _ => o_move rfl) ?_
      refine wl_p (fun _ => o_move rfl) ?_
      refine wl_call rfl (C_dImage _ f29 him2) ?_
      rintro v90 w90 ⟨A90, ⟨c90, ⟨rfl, ⟨f90, b90⟩⟩⟩⟩
      simp only [drew_size] at f90
      simp only [drew_size] at b90
      have qf90 := f90.cap
      have s90 := b90.size
      simp only [drew_size] at s90
      replace hw := hw.trans (b90.mono hw.size)
      replace f52 := f52.u b90
      replace f29 := f29.u b90
      refine wl_s (fun _ hk => (o_strU Try.underlying32 Try.underlying5 Try.underlying9 rfl f90.to_Rd (below_of_grown_none hk) rfl)) ?_
      refine wl_call rfl (C_dImage _ f52 him2) ?_ (hq := .inr fun _ _ h => by obtain ⟨_, _, _, _, hb⟩ := h; exact grown_of_below hb _)
      rintro v93 w93 ⟨A93, ⟨c93, ⟨rfl, ⟨f93, b93⟩⟩⟩⟩
      have qf93 := f93.cap
      have s93 := b93.size
      replace hw := hw.trans (b93.mono hw.size)
      replace f29 := f29.u b93
      replace f52 := f52.u b93
      replace f90 := f90.u b93
      refine wl_r (o_strU Try.underlying32 Try.underlying5 Try.underlying9 rfl f93.to_Rd (Below.refl _ _) rfl) ?_
      refine wl_p (fun _ => o_seq rfl rfl) ?_
      refine wl_p (fun _ => o_move rfl) ?_
      refine wl_know 96 true rfl (by simp) ?_
      refine wl_p (fun _ => o_move rfl) ?_
      refine wl_p (fun _ => o_move rfl) ?_
      refine wl_call rfl (C_dCached _ f29 hI2) ?_
      rintro v98 w98 ⟨A98, ⟨c98, ⟨rfl, ⟨f98, b98⟩⟩⟩⟩
      have qf98 := f98.cap
      have s98 := b98.size
      replace hw := hw.trans (b98.mono hw.size)
      replace f90 := f90.u b98
      replace f52 := f52.u b98
      replace f29 := f29.u b98
      replace f93 := f93.u b98
      refine wl_call rfl (C_dCached _ f52 hI2) ?_
      rintro v100 w100 ⟨A100, ⟨c100, ⟨rfl, ⟨f100, b100⟩⟩⟩⟩
      have qf100 := f100.cap
      have s100 := b100.size
      replace hw := hw.trans (b100.mono hw.size)
      replace f93 := f93.u b100
      replace f29 := f29.u b100
      replace f52 := f52.u b100
      replace f90 := f90.u b100
      replace f98 := f98.u b100
      refine wl_call rfl (C_IntsZ _ f98.to_RZ f100.to_RZ rfl rfl (by omega) (by omega)) ?_
      rintro v101 w101 ⟨rfl, b101⟩
      have s101 := b101.size
      replace hw := hw.trans (b101.mono hw.size)
      replace f98 := f98.u b101
      replace f90 := f90.u b101
      replace f52 := f52.u b101
      replace f29 := f29.u b101
      replace f93 := f93.u b101
      replace f100 := f100.u b101
      refine wl_p (fun _ => o_pick_t rfl rfl) ?_
      refine wl_p (fun _ => o_move rfl) ?_
      refine wl_know 103 true rfl (by simp) ?_
      refine wl_p (fun _ => o_move rfl) ?_
      refine wl_p (fun _ => o_move rfl) ?_
      refine wl_call rfl (C_dSize _ f29) ?_
      rintro v105 w105 ⟨rfl, rfl⟩
      refine wl_call rfl (C_dSize _ f52) ?_
      rintro v107 w107 ⟨rfl, rfl⟩
      refine wl_p (fun _ => o_eq rfl rfl) ?_
      refine wl_p (fun _ => o_pick_t rfl rfl) ?_
      refine wl_p (fun _ => o_assign rfl) ?_
      refine wl_nild ?_
      refine ret1 rfl rfl ?_
      exact ⟨congrArg Value.bool (decide_eq_true rfl), hw⟩
end Go.Proofs.Ythkfjoilhoemmaa
